/- Several texts in one file: contracts of the program's functions and what follows from them. -/
import Derived.Test.YtmofaapnkidioaaGreatE3
import Derived.Maps.RangeRun
import Derived.Shelf.SlSortCmp.WholeK
import Derived.Shelf.SlicesG.Cmp
import Derived.Shelf.SlGeneric
import Derived.Ground.SlsfProg
import Derived.Ground.SlgcProg
import Derived.Test.YtmofaapnkidioaaGreatProg
set_option linter.unusedSimpArgs false
set_option linter.unusedVariables false
set_option linter.unusedSectionVars false
set_option linter.unnecessarySimpa false
set_option maxRecDepth 100000
set_option maxHeartbeats 8000000
namespace Go.Proofs.YtmofaapnkidioaaGreat
open Go.RowKit
def Zcl (d:Zag):List Nat:=(Zdt d.pool).filter (fun i=>decide (Za0 d i=0))
theorem Zo6 (p:Zam):(Zdt p).Nodup:=(List.nodup_range).filter _
theorem Zpn (d:Zag):(Zcl d).Nodup:=(Zo6 d.pool).filter _
theorem Zkf {d:Zag} {i:Nat} (h:i∈Zcl d):d.pool.tk i=true/\Za0 d i=0:=by
 unfold Zcl at h;rw[List.mem_filter] at h;exact⟨(List.mem_filter.1 h.1).2,by simpa using h.2⟩
theorem Zll (f g:Nat->Bool):∀ k,((((List.range k).filter f).filter g).length:Int)=Zay k (fun i=>if f i=true then (if g i=true then 1 else 0) else 0)
 | 0=>by simp[Zay]
 | k+1=>by
   rw[List.range_succ,List.filter_append,List.filter_append,List.length_append];have ih:=Zll f g k;rw[Int.natCast_add,ih];cases hf:f k<;>cases hg:g k<;>simp[Zay,hf,hg,List.filter]
theorem Znr {d:Zag} {ext:Nat->Int} (h:Zcc d ext):(Zcl d).length=d.dead:=by
 have h1:=h.dead;have h2:((Zcl d).length:Int)=Zay d.pool.at_.length (dead1 (Zab d) (Za0 d)):=by
  unfold Zcl Zdt Zd8;rw[Zll];refine Zba _ fun i _=>?_
  unfold dead1 Zab Zam.get;cases ht:d.pool.tk i<;>simp
 unfold Zeb at h1;omega
structure Zdu (d:Zag) (k:Nat) (d':Zag):Prop where
 vars:d'.vars=d.vars
 level:d'.level=d.level
 counts:d'.counts=d.counts
 dead:d'.dead=d.dead
 room:d'.pool.room=d.pool.room
 alen:d'.pool.at_.length=d.pool.at_.length
 keep:∀ i,i∉(Zcl d).take k->d'.pool.tk i=d.pool.tk i/\d'.pool.nd i=d.pool.nd i
 gone:∀ i,i∈(Zcl d).take k->d'.pool.tk i=false
 tab:∀ v,v<d.vars.length->∀ lo hi id,d'.tab v (lo,hi)=some id↔Zab d' id=some ⟨v,lo,hi⟩
 many:d'.pool.many+k=d.pool.many
theorem Zdu.start {d:Zag} (ht:∀ v,v<d.vars.length->∀ lo hi id,d.tab v (lo,hi)=some id↔Zab d id=some ⟨v,lo,hi⟩):Zdu d 0 d :=
 ⟨rfl,rfl,rfl,rfl,rfl,rfl,fun _ _=>⟨rfl,rfl⟩,fun i h=>by simp at h,ht,rfl⟩
def Zty (d:Zag) (i:Nat) (b:BN):Zag:={ d with pool:=d.pool.give i,tab:=fun v=>if v=b.v then putF (d.tab v) (b.lo,b.hi) none else d.tab v }
theorem Zdu.at {d d':Zag} {k i:Nat} (h:Zdu d k d') (hi:(Zcl d)[k]?=some i):d'.pool.tk i=true/\d'.pool.nd i=d.pool.nd i:=by
 obtain⟨hlt,e⟩:=List.getElem?_eq_some_iff.1 hi;have hm:i∈Zcl d:=e ▸ List.getElem_mem hlt;have hn:i∉(Zcl d).take k:=by
  intro hh;rw[List.mem_take_iff_getElem] at hh;obtain⟨j,hj,e2⟩:=hh;have hne:=List.pairwise_iff_getElem.1 (Zpn d) j k (by omega) hlt (by omega);exact hne (e2.trans e.symm)
 have:=h.keep i hn;exact⟨this.1.trans (Zkf hm).1,this.2⟩
theorem Zdu.next {d d':Zag} {k i:Nat} (h:Zdu d k d') (hi:(Zcl d)[k]?=some i) (hl:d'.pool.taken.length=d'.pool.at_.length) (hat:i<d'.pool.at_.length) (hm:1<=d'.pool.many) :
 Zdu d (k+1) (Zty d' i (bnOf (d'.pool.nd i))):=by
 obtain⟨hlt,e⟩:=List.getElem?_eq_some_iff.1 hi;obtain⟨ht,hnd⟩:=h.at hi;have e1:(Zcl d).take (k+1)=(Zcl d).take k++[i]:=by rw[List.take_succ_eq_append_getElem hlt,e]
 have tk:∀ j,(d'.pool.give i).tk j=if j=i then false else d'.pool.tk j:=fun j=>Zku (by rw[hl];exact hat) j
 have nd:∀ j,(d'.pool.give i).nd j=if j=i then rn0 else d'.pool.nd j:=fun j=>Zh3 hat j
 have hni:Zab d' i=some (bnOf (d'.pool.nd i)):=by unfold Zab Zam.get;rw[if_pos ht];rfl
 have hno:∀ j,Zab (Zty d' i (bnOf (d'.pool.nd i))) j=if j=i then none else Zab d' j:=fun j=>by
  unfold Zab
  show ((d'.pool.give i).get j).map bnOf=_
  rw[Zam.give_get (by rw[hl];exact hat) hat]
  by_cases e:j=i<;>simp[e]
 refine⟨h.vars,h.level,h.counts,h.dead,h.room,?_,fun j hj=>?_,fun j hj=>?_,fun v hv lo hY id=>?_,?_⟩
 ·
  show (d'.pool.at_.set i rn0).length=_
  rw[List.length_set];exact h.alen
 ·
  rw[e1] at hj;simp only[List.mem_append,List.mem_singleton,not_or] at hj
  show (d'.pool.give i).tk j=_/\(d'.pool.give i).nd j=_
  rw[tk,nd,if_neg hj.2,if_neg hj.2];exact h.keep j hj.1
 ·
  rw[e1] at hj;simp only[List.mem_append,List.mem_singleton] at hj
  show (d'.pool.give i).tk j=_
  rw[tk]
  by_cases e2:j=i
  ·
   rw[if_pos e2]
  ·
   rw[if_neg e2];exact h.gone j (hj.resolve_right e2)
 ·
  rw[hno];have h0:=h.tab v hv lo hY id
  show (if v=(bnOf (d'.pool.nd i)).v then putF (d'.tab v) ((bnOf (d'.pool.nd i)).lo,(bnOf (d'.pool.nd i)).hi) none else d'.tab v) (lo,hY)=some id↔_
  by_cases e2:id=i
  ·
   subst e2;simp only[if_true];constructor
   ·
    intro hh;exfalso
    by_cases e3:v=(bnOf (d'.pool.nd id)).v
    ·
     rw[if_pos e3] at hh;unfold putF at hh
     by_cases e4:(lo,hY)=((bnOf (d'.pool.nd id)).lo,(bnOf (d'.pool.nd id)).hi)
     ·
      rw[if_pos e4] at hh;cases hh
     ·
      rw[if_neg e4,h0,hni] at hh;cases hh;exact e4 rfl
    ·
     rw[if_neg e3,h0,hni] at hh;cases hh;exact e3 rfl
   ·
    intro hh;cases hh
  ·
   rw[if_neg e2,<- h0]
   by_cases e3:v=(bnOf (d'.pool.nd i)).v
   ·
    rw[if_pos e3];unfold putF
    by_cases e4:(lo,hY)=((bnOf (d'.pool.nd i)).lo,(bnOf (d'.pool.nd i)).hi)
    ·
     rw[if_pos e4];constructor
     ·
      intro hh;cases hh
     ·
      intro hh;exfalso;have q:=(h.tab v hv lo hY i).2 (by rw[hni];cases e4;rw[e3]);rw[hh] at q;cases q;exact e2 rfl
    ·
     rw[if_neg e4]
   ·
    rw[if_neg e3]
 ·
  show d'.pool.many-1+(k+1)=_
  have:=h.many;omega
structure Zbd (d d':Zag):Prop where
 vars:d'.vars=d.vars
 level:d'.level=d.level
 counts:d'.counts=d.counts
 room:d'.pool.room=d.pool.room
 dead:d'.dead=0
 alen:d'.pool.at_.length=d.pool.at_.length
 nodes:∀ i,Zab d' i=if 0<Za0 d i then Zab d i else none
 ext:∀ i b,Zab d' i=some b->Za2 d' i=Za2 d i
 tab:∀ v,v<d.vars.length->∀ lo hi id,d'.tab v (lo,hi)=some id↔Zab d' id=some ⟨v,lo,hi⟩
 many:d'.pool.many+d.dead=d.pool.many
theorem Zdu.done {d d':Zag} {ext:Nat->Int} (h:Zdu d (Zcl d).length d') (hl:Zcc d ext) (hat:∀ i,d.pool.tk i=true->i<d.pool.at_.length):Zbd d { d' with dead:=0 }:=by
 have hk:(Zcl d).take (Zcl d).length=Zcl d:=List.take_length;have hmem:∀ i,d.pool.tk i=true->Za0 d i=0->i∈Zcl d:=fun i h1 h2=>by
  unfold Zcl Zdt Zd8;simp only[List.mem_filter,List.mem_range,decide_eq_true_eq];exact⟨⟨hat i h1,h1⟩,h2⟩
 refine⟨h.vars,h.level,h.counts,h.room,rfl,h.alen,fun i=>?_,fun i b hb=>?_,h.tab,by rw[<- Znr hl];exact h.many⟩
 ·
  show (d'.pool.get i).map bnOf=if 0<Za0 d i then (d.pool.get i).map bnOf else none
  unfold Zam.get
  by_cases hc:i∈Zcl d
  ·
   have h1:=h.gone i (by rw[hk];exact hc);have h2:=(Zkf hc).2;simp[h1,h2]
  ·
   obtain⟨h1,h2⟩:=h.keep i (by rw[hk];exact hc);rw[h1,h2]
   by_cases h3:0<Za0 d i
   ·
    rw[if_pos h3]
   ·
    rw[if_neg h3];cases ht:d.pool.tk i with
    | false=>rfl
    | true=>exact absurd (hmem i ht (by omega)) hc
 ·
  have hb':(d'.pool.get i).map bnOf=some b:=hb;have ht:d'.pool.tk i=true:=by
   unfold Zam.get at hb';cases ht:d'.pool.tk i with
   | true=>rfl
   | false=>rw[ht] at hb';simp at hb'
  have hc:i∉Zcl d:=fun hc=>by rw[h.gone i (by rw[hk];exact hc)] at ht;cases ht
  obtain⟨h1,h2⟩:=h.keep i (by rw[hk];exact hc)
  show (if d'.pool.tk i=true then ((d'.pool.nd i).refs:Int) else 0)=if d.pool.tk i=true then ((d.pool.nd i).refs:Int) else 0
  rw[h1,h2]
theorem Zjm {d:Zag} {ext:Nat->Int} (hl:Zcc d ext) (h0:d.dead=0) {i:Nat} {b:BN} (hb:Zab d i=some b):0<Za0 d i:=by
 have h1:=hl.dead;rw[h0] at h1;have h2:=Zjr (f:=dead1 (Zab d) (Za0 d)) d.pool.at_.length (fun i _=>Zi5 _ _ i) (hl.cnt.lt i b hb);unfold Zeb at h1;unfold dead1 at h2;rw[hb] at h2
 by_cases h:Za0 d i=0
 ·
  simp only[h,if_true] at h2;unfold dead1 at h1;omega
 ·
  omega
theorem Zbd.none {d:Zag} {V:Nat->BF} (hk:Zan d V) (h0:d.dead=0):Zbd d d:=by
 refine⟨rfl,rfl,rfl,rfl,h0,rfl,fun i=>?_,fun _ _ _=>rfl,hk.tab,by omega⟩;cases hb:Zab d i with
 | none=>simp
 | some b=>rw[if_pos (Zjm hk.live h0 hb)]
theorem Zn2 (d:Zag) (i:Nat):0<=Za2 d i:=by unfold Za2;split<;>omega
section
variable {d d':Zag} {V:Nat->BF}
theorem Zbd.sub (r:Zbd d d') {i:Nat} {b:BN} (h:Zab d' i=some b):Zab d i=some b/\0<Za0 d i:=by
 rw[r.nodes] at h;split at h
 ·
  rename_i hc;exact⟨h,hc⟩
 ·
  cases h
theorem Zbd.cnt (r:Zbd d d'):Za0 d'=Za0 d:=by funext i;unfold Za0;rw[r.counts]
theorem Zbd.lev (r:Zbd d d'):levN d'=levN d:=by funext v;unfold levN;rw[r.level]
theorem Zbd.kid (r:Zbd d d') (hk:Zan d V) {i:Nat} {b:BN} (h:Zab d' i=some b) {e:Nat} (he:e=b.lo\/e=b.hi):okE (Zab d') e:=by
 obtain⟨h1,h2⟩:=r.sub h;have ho:okE (Zab d) e:=by
  rcases he with rfl|rfl
  ·
   exact hk.dag.okLo i b h1
  ·
   exact hk.dag.okHi i b h1
 rcases ho with h0|⟨c,hc⟩
 ·
  exact .inl h0
 ·
  refine .inr ⟨c,?_⟩;rw[r.nodes,if_pos (hk.live.cnt.pos_of_live h1 h2 he hc (Zn2 d _))];exact hc
theorem Zbd.lvE (r:Zbd d d') (h0:Zab d 0=Option.none) {n:Nat} {lev:Nat->Nat} {e:Nat} (he:okE (Zab d') e):Go.Proofs.YtmofaapnkidioaaGreat.lvE n lev (Zab d') e=Go.Proofs.YtmofaapnkidioaaGreat.lvE n lev (Zab d) e:=by
 unfold Go.Proofs.YtmofaapnkidioaaGreat.lvE;rcases he with he|⟨b,hb⟩
 ·
  have:Zab d' 0=Option.none:=by rw[r.nodes,h0];simp
  rw[he,h0,this]
 ·
  rw[hb,(r.sub hb).1]
theorem Zbd.ok (r:Zbd d d') (hk:Zan d V):Zan d' V:=by
 have hlv:∀ e,okE (Zab d') e->Go.Proofs.YtmofaapnkidioaaGreat.lvE d.vars.length (levN d) (Zab d') e=Go.Proofs.YtmofaapnkidioaaGreat.lvE d.vars.length (levN d) (Zab d) e:=fun e he=>r.lvE hk.dag.none0 he
 refine⟨?_,⟨?_,?_,fun i b hb=>by rw[r.counts];exact hk.live.has i b (r.sub hb).1⟩,by rw[r.vars];exact r.tab,by rw[r.counts];exact hk.clen,by rw[r.vars];exact hk.small,by rw[r.vars,r.lev];exact hk.inv,by rw[r.vars,r.lev];exact hk.vlt⟩
 ·
  rw[r.vars,r.lev];exact hk.dag.restrict (Zab d') (fun i b h=>(r.sub h).1) (fun i b h=>⟨r.kid hk h (.inl rfl),r.kid hk h (.inr rfl)⟩)
 ·
  rw[r.alen,r.cnt];exact(hk.live.cnt.collect (Zab d') r.nodes).congr (fun x b hb=>r.ext x b hb)
 ·
  rw[r.dead];unfold Zeb;rw[Zba (g:=fun _=>0) _ (fun i _=>?_),Zdi]
  ·
   rfl
  ·
   unfold dead1;cases hb:Zab d' i with
   | none=>rfl
   | some b=>have:=(r.sub hb).2;rw[r.cnt];simp;omega
end
end Go.Proofs.YtmofaapnkidioaaGreat

namespace Go.Proofs.YtmofaapnkidioaaGreat
open Go.RowKit Go.Shelf
attribute [local go_sem] Oper.semAt_some
theorem Zer {F:Fence} {fu:Nat} (T e:TypeId) (size bytes:Nat) (z:Value) (hT:Tryz.prog.underlying T=some (.slice e)) (he:(Tryz.prog.info? e).map (fun i=>(i.zero,i.size,i.bytes))=some (some z,size,bytes)) (hzs:z.cells.size=size) (hsz:0<size)
 {wr:World} {ops:Array Oper} {rest:List Oper} {op:Oper} {a:Act} {Q:Exit->Act->World->Prop} {W:World} (hgd:op.guard=none) (s x:Operand)
 (hop:op.op=.call { callee:=.builtin .append,args:=#[s,x],argTypes:=#[T,T] })
 {o:Own} {r:Role} {v:Value} {n:Nat} {xs:List Value} (hs:a.eval s=v) {N:Nat} (hx:a.eval x=.slice (some ⟨N,0,none⟩) 1 1) {news:Array Value}
 (hW:W=wr.alloc (.cells news e)) (hN:N=wr.heap.size) (hl:news.size=size) (h1:∀ u∈news.toList,u.oneCell'=true) (h:RowR o wr r e size v n xs) (hlt:Zak o wr) (hn:n<1000000000) (hb:bytes<=10000)
 (hK:∀ g cap w' o',RowR o' w' r e size (.slice (some ⟨g,0,none⟩) (n+1) cap) (n+1) (xs++news.toList)->Chg (· = r) o o' wr w'->Zak o' w'->wpListIn F fu Tryz.prog ops Q rest (a.put op.dst (.slice (some ⟨g,0,none⟩) (n+1) cap)) w'):wpListIn F fu Tryz.prog ops Q (op::rest) a W:=by
 subst hN;subst hW
 obtain⟨g,cap,w',o',hr,h2,h3,h4⟩:=Ziw T e op.type size bytes z hT he hzs hsz news hl h1 h hlt hn hb;refine wpListIn_plain hgd fun K hKK=>?_
 unfold Oper.wpIn;refine⟨?_,?_⟩
 ·
  simp[Oper.about,hop,resolve,Target.leads,Sem.run_pure]
 ·
  rw[Oper.semAt_plain F _ _ (by rw[hop];intro c hc';cases hc')];simp only[execOp,hop,resolve,invoke,builtin,Sem.run_bind,Sem.run_pure,Result.andThen_ok,List.map_toArray,List.map_cons,List.map_nil,hs,hx,hr];exact hKK _ _ (hK g cap w' o' h2 h3 h4)
theorem Zgp (w:World) (o:Obj):(w.alloc o).drew=w.drew.alloc o:=rfl
theorem Zpa {F:Fence} {n:Nat} {P:Program} {c:Code} {Q:Exit->Act->World->Prop} {a:Act} {w:World} (W1:World) (h:∃ A,c.wpIn F n P (fun e a' W'=>e=.normal/\a'=A/\W'=W1) a w/\Q .normal A W1):c.wpIn F n P Q a w:=by
 obtain⟨A,h1,h2⟩:=h;refine wpIn_mono h1 ?_;rintro _ _ _ ⟨rfl,rfl,rfl⟩;exact h2
def Zfl (d:Zag) (pre:List Nat):List Nat:=pre.filter (fun i=>decide (Za0 d i=0))
structure GatS (d:Zag) (w:World) (sb:Nat) (pre:List Nat) (M:Nat->Prop) (W:World) (v:Value) (oG:Own):Prop where
 mm:∀ k,M k↔(k=w.heap.size\/k=w.heap.size+1\/oG k=some .slots)
 low:Below w.heap.size w W
 boxs:W.heap[w.heap.size]?=some (.cells #[.pointer (some ⟨sb,0,none⟩)] 124 (0,0))
 boxg:W.heap[w.heap.size+1]?=some (.cells #[v] 239 (0,0))
 row:RowR oG W .slots 199 5 v (Zfl d pre).length ((Zfl d pre).flatMap fun i=>rnV (d.pool.nd i))
 lt:Zak oG W
 ge:∀ k r,oG k=some r->r=.slots/\w.heap.size+2<=k
def Gat (d:Zag) (w:World) (sb:Nat) (pre:List Nat) (M:Nat->Prop) (W:World):Prop:=∃ v oG,GatS d w sb pre M W v oG
theorem GatS.minds {d:Zag} {w:World} {sb:Nat} {pre:List Nat} {M:Nat->Prop} {W W':World} {v:Value} {oG:Own} (h:GatS d w sb pre M W v oG) (hw:Wr (fun k=>w.heap.size<=k/\¬ M k) W W'):GatS d w sb pre M W' v oG:=by
 have hk:∀ k,k<W.heap.size->M k->W'.heap[k]?=W.heap[k]?:=fun k h1 h2=>hw.keep k h1 (fun e=>e.2 h2)
 have hm:=h.mm
 refine⟨hm,h.low.trans (hw.below (fun k h=>h.1) h.low.size),(hk _ (Array.getElem?_eq_some_iff.1 h.boxs).1 ((hm _).2 (.inl rfl))).trans h.boxs,(hk _ (Array.getElem?_eq_some_iff.1 h.boxg).1 ((hm _).2 (.inr (.inl rfl)))).trans h.boxg,
  h.row.keep (fun g hg=>hk g (h.lt g _ hg) ((hm g).2 (.inr (.inr hg)))) (fun _ h=>h),h.lt.mono hw.size,h.ge⟩
theorem Zua {d:Zag} {pre:List Nat} {x:Nat} (h:Za0 d x=0):Zfl d (pre++[x])=Zfl d pre++[x]:=by unfold Zfl;rw[List.filter_append];simp[h]
theorem Zwn {d:Zag} {pre:List Nat} {x:Nat} (h:Za0 d x≠0):Zfl d (pre++[x])=Zfl d pre:=by unfold Zfl;rw[List.filter_append];simp[h]
theorem GatS.add {d:Zag} {w:World} {sb:Nat} {pre:List Nat} {M:Nat->Prop} {W W1:World} {v v':Value} {oG oG':Own} {x:Nat} (h:GatS d w sb pre M W v oG) (hc:Za0 d x=0)
 (hr:RowR oG' W1 .slots 199 5 v' ((Zfl d pre).length+1) (((Zfl d pre).flatMap fun i=>rnV (d.pool.nd i))++rnV (d.pool.nd x))) (hg:Chg (· = .slots) oG oG' W W1) (hl:Zak oG' W1) {n:Nat} (hn:n<=W.heap.size) :
 ∃ M',Gat d w sb (pre++[x]) M' (W1.setCell ⟨w.heap.size+1,0,none⟩ v')/\Wr (fun k=>M k\/n<=k) W (W1.setCell ⟨w.heap.size+1,0,none⟩ v')/\∀ k,M' k->M k\/n<=k:=by
 have none:∀ k,k<w.heap.size+2->oG k=Option.none:=fun k hk=>by
  cases e:oG k with
  | none=>rfl
  | some r=>have:=(h.ge k r e).2;omega
 have hb1:w.heap.size+1<W.heap.size:=(Array.getElem?_eq_some_iff.1 h.boxg).1;have k0:=(hg.alien (by omega) (none w.heap.size (by omega))).trans h.boxs;have k1:=(hg.alien hb1 (none (w.heap.size+1) (by omega))).trans h.boxg;have ge':∀ k r,oG' k=some r->r=.slots/\w.heap.size+2<=k:=fun k r hk=>by
  by_cases e:oG' k=oG k
  ·
   rw[e] at hk;exact h.ge k r hk
  ·
   obtain⟨a1,q,a2,a3⟩:=hg.new k e;rw[hk] at a2;cases a2
   exact⟨a3,by omega⟩
 refine⟨fun k=>k=w.heap.size\/k=w.heap.size+1\/oG' k=some .slots,⟨v',oG',⟨fun k=>Iff.rfl,?_,?_,Zae k1 _,?_,hl.mono (by simp[World.setCell]),ge'⟩⟩,?_,fun k hk=>?_⟩
 ·
  have:Below w.heap.size w W1:=h.low.trans ⟨hg.os,hg.tape,hg.output,hg.size,fun k hk=>hg.alien (Nat.lt_of_lt_of_le hk h.low.size) (none k (by omega))⟩;exact this.setCell (p:=⟨w.heap.size+1,0,Option.none⟩) (by show _<=w.heap.size+1;omega) _
 ·
  exact(Zaf (by show _≠w.heap.size+1;omega) _).trans k0
 ·
  rw[Zua hc,List.length_append,List.flatMap_append];simp only[List.length_singleton,List.flatMap_cons,List.flatMap_nil,List.append_nil];exact hr.setCell_other (fun e=>by have:=(ge' _ _ e).2;simp at this) _
 ·
  have:Wr (fun k=>M k\/n<=k) W W1:=⟨hg.os,hg.tape,hg.output,hg.size,fun k hk hm=>hg.block k hk fun r hr e=>hm (.inl ((h.mm k).2 (.inr (.inr (by rw[hr,e])))))⟩;exact this.setCell (p:=⟨w.heap.size+1,0,Option.none⟩) (.inl (.inl ((h.mm _).2 (.inr (.inl rfl))))) _
 ·
  rcases hk with hk|hk|hk
  ·
   exact .inl ((h.mm k).2 (.inl hk))
  ·
   exact .inl ((h.mm k).2 (.inr (.inl hk)))
  ·
   by_cases e:oG' k=oG k
   ·
    rw[e] at hk;exact .inl ((h.mm k).2 (.inr (.inr hk)))
   ·
    have:=(hg.new k e).1;right;omega
theorem GatS.no {d:Zag} {w:World} {sb:Nat} {pre:List Nat} {M:Nat->Prop} {W:World} {v:Value} {oG:Own} (h:GatS d w sb pre M W v oG) (k:Nat) (hk:k<w.heap.size+2):oG k=none:=by
 cases e:oG k with
 | none=>rfl
 | some r=>have:=(h.ge k r e).2;omega
theorem GatS.drew {d:Zag} {w:World} {sb:Nat} {pre:List Nat} {M:Nat->Prop} {W:World} {v:Value} {oG:Own} (h:GatS d w sb pre M W v oG):GatS d w sb pre M W.drew v oG:=h.minds ((Wr.refl _ W).drew)
def Zv5 (o:Own) (W2:World) (sb:Nat) (d:Zag) (s:Za5) (k:Nat) (wr:World):Prop:=∃ o1 d1,Zao o1 wr sb d1 s/\Zak o1 wr/\Zdu d k d1/\Chg Zas o o1 W2 wr
theorem Zv5.next {o o1 o2:Own} {W2 wr w3 w4 w4' w5:World} {sb:Nat} {d d1:Zag} {s:Za5} {k i:Nat} {N:RN} (hs1:Zao o1 wr sb d1 s) (hl1:Zak o1 wr) (hr1:Zdu d k d1) (hc1:Chg Zas o o1 W2 wr) (hi:(Zcl d)[k]?=some i) (hN:d1.pool.nd i=N) (hb3:Below wr.heap.size wr w3)
 (ht:Zde o1 w4 N.v (s.ts.getD N.v 0) (putF (d1.tab N.v) (N.lo,N.hi) none)) (hct:Chg (· = .tmap N.v) o1 o1 w3 w4) (hl4:Zak o1 w4) (hb:Below w4.heap.size w4 w4')
 (hp:Zau o2 w5 s.pb (d1.pool.give i)) (hcp:Chg (fun r=>r=.pool\/r=.slots\/r=.taken\/r=.free) o1 o2 w4' w5) (hl5:Zak o2 w5):Zv5 o W2 sb d s (k+1) w5:=by
 have h3:=hs1.below hl1 hb3;have hl3:=hl1.mono hb3.size;have h4:=h3.setTab hl3 ht hct;have h4':=h4.below hl4 hb;have h5:=h4'.setPool (hl4.mono hb.size) hp hcp;have hat:i<d1.pool.at_.length:=(hs1.pool.tk_lt (hr1.at hi).1).2;have e:(fun u=>if u=N.v then putF (d1.tab N.v) (N.lo,N.hi) none else d1.tab u)=(fun u=>if u=N.v then putF (d1.tab u) (N.lo,N.hi) none else d1.tab u):=by
  funext u
  by_cases h:u=N.v
  ·
   subst h;rfl
  ·
   simp[h]
 rw[e] at h5;refine⟨o2,Zty d1 i (bnOf N),h5,hl5,?_,hc1.trans ((Chg.of_below hb3 _ o1).trans ((hct.mono ?_).trans ((Chg.of_below hb _ o1).trans (hcp.mono ?_))))⟩
 ·
  have:=hr1.next hi hs1.pool.len hat (by
   have h1:=hs1.pool.cnt;have h2:=Zo3 (f:=fun j=>if d1.pool.tk j=true then (1:Int) else 0) (fun j _=>by split<;>omega) hat (by simp[(hr1.at hi).1]);omega)
  rw[hN] at this;exact this
 ·
  rintro r rfl;exact .inr (.inr (.inr (.inr (.inr (.inr (.inl ⟨_,.inr rfl⟩))))))
 ·
  rintro r h;exact .inr (.inr (.inr (.inr (.inl h))))
theorem Zdh {P:Program} {S:World->Prop} {Q:Exit->Act->World->Prop} {ops:Array Oper} {o:Oper} {a:Act} {w:World} {f:FuncId} {args:Array Value} {R:Value->World->Prop} (hg:o.guard=none)
 (he:(execOp a.eval o).run P w=.ok (.enter f args) w) (hc:Calls P f args w fun e w'=>∃ v,e=.returned v/\R v w') (h:∀ v w',R v w'->Q .normal (a.put o.dst v) w'):Zcy P ops Q S true [(some o,true)] a w:=by
 refine Zdb hg fun K hK=>?_
 unfold Oper.wp;simp only[he,Oper.upon];exact hc.mono fun e w' ⟨v,h1,h2⟩=>by subst h1;exact hK _ _ (h v w' h2)
theorem Zhr {o:Own} {w:World} {sb:Nat} {d:Zag} (h:Zax o w sb d) (h0:d.dead=0) :
 Calls Tryz.prog 212 #[.pointer (some ⟨sb,0,none⟩)] w fun x w'=>x=.returned (.int .i64 0)/\Below w.heap.size w w':=by
 obtain⟨s,h⟩:=h;obtain⟨c0,c1,c2,c3,c4,f0⟩:=cells5 h.blk;rw[h0] at c4;obtain⟨w1,hw1⟩:∃ w1,w1=w.alloc (.cells #[.pointer (some ⟨sb,0,none⟩)] 124):=⟨_,rfl⟩;have hb1:Below w.heap.size w w1:=by rw[hw1];exact Zad w _
 have cB:w1.cell? ⟨w.heap.size,0,none⟩=some (.pointer (some ⟨sb,0,none⟩)):=by rw[hw1];exact cell1 (heap_alloc_new w _)
 have c4':=(hb1.cell (p:=⟨sb,4,none⟩) (Zaa c4)).trans c4;have HW:Hid (_=w1):=Hd hw1.symm;have HB:=Hd hb1;clear h c0 c1 c2 c3 c4 f0 hw1 hb1 h0;refine(callsIn_wide (n:=9)).1 ?_;refine callsIn_of_wp_marks Tryz.func212 rfl trivial ?_;refine wpIn_wide.2 ?_;simp only[Tryz.ntmps212,List.size_toArray,List.length_cons,List.length_nil,Nat.reduceAdd,Nat.reduceSub,Array.replicate_succ,Array.replicate_zero,List.push_toArray,List.append_toArray,List.nil_append,List.cons_append];go_upto_region 1 with fail;rw[HW.out];go_wp2_with fail;exact⟨_,results_tmp rfl _ _ _,rfl,HB.out⟩
theorem Zj1 {o:Own} {w:World} {sb:Nat} {d:Zag} {V:Nat->BF} (h:Zax o w sb d) (hlt:Zak o w) (hk:Zan d V) (h0:d.dead≠0) :
 Calls Tryz.prog 212 #[.pointer (some ⟨sb,0,none⟩)] w fun x w'=>x=.returned (.int .i64 d.dead)/\∃ o' d',Zax o' w' sb d'/\Zak o' w'/\Zbd d d'/\Chg Zas o o' w w':=by
 obtain⟨s,h⟩:=h;obtain⟨c0,c1,c2,c3,c4,f0⟩:=cells5 h.blk;have hd1:((d.dead:Int) == 0)=false:=by simpa using h0
 obtain⟨w1,hw1⟩:∃ w1,w1=w.alloc (.cells #[.pointer (some ⟨sb,0,none⟩)] 124):=⟨_,rfl⟩;have hb1:Below w.heap.size w w1:=by rw[hw1];exact Zad w _
 have hB:w1.heap[w.heap.size]?=some (.cells #[.pointer (some ⟨sb,0,none⟩)] 124 (0,0)):=by rw[hw1];exact heap_alloc_new w _
 have hs1:w1.heap.size=w.heap.size+1:=by rw[hw1];simp
 obtain⟨w2,hw2⟩:∃ w2,w2=w1.alloc (.cells #[.slice none 0 0] 239):=⟨_,rfl⟩;have hb2:Below w.heap.size w w2:=by rw[hw2];exact hb1.alloc (by omega) _
 have hB2:w2.heap[w.heap.size]?=some (.cells #[.pointer (some ⟨sb,0,none⟩)] 124 (0,0)):=by rw[hw2];exact(Below.heap_alloc w1 _ _ (by omega)).trans hB
 have hG2:w2.heap[w.heap.size+1]?=some (.cells #[.slice none 0 0] 239 (0,0)):=by rw[hw2,<- hs1];exact heap_alloc_new w1 _
 have hs2:w2.heap.size=w.heap.size+2:=by rw[hw2];simp[hs1]
 have cB1:=cell1 hB;have cB2:=cell1 hB2;have cS1:=(hb1.cell (p:=⟨sb,4,none⟩) (Zaa c4)).trans c4;have cS2:=(hb2.cell (p:=⟨sb,1,none⟩) (Zaa c1)).trans c1;have HW1:Hid (_=w1):=Hd hw1.symm;have HW2:Hid (_=w2):=Hd hw2.symm;have HB2:=Hd hb2;have HH:=Hd h;have HE:=Hd (callsIn_wide.1 (Zy1 Fence.wide 9 trivial rfl s.pb w2));clear h c0 c1 c2 c3 c4 f0 hw1 hw2 hb1 hb2;refine(callsIn_wide (n:=9)).1 ?_;refine callsIn_of_wp_marks Tryz.func212 rfl trivial ?_;refine wpIn_wide.2 ?_;simp only[Tryz.ntmps212,List.size_toArray,List.length_cons,List.length_nil,Nat.reduceAdd,Nat.reduceSub,Array.replicate_succ,Array.replicate_zero,List.push_toArray,List.append_toArray,List.nil_append,List.cons_append];go_upto_region 1 with fail;rw[HW1.out];go_upto_region 4 with fail;rw[HW2.out];go_wp2_with fail;refine HE.out.mono ?_;rintro x w3 ⟨rfl,hw3⟩;go_wp2_with fail;obtain⟨w3',hw3'⟩:∃ w3',w3'=w2.alloc (.cells #[.pointer (some ⟨s.pb,0,none⟩)] 185):=⟨_,rfl⟩;rw[<- hw3'];have hs3:w3'.heap.size=w.heap.size+3:=by rw[hw3'];simp[hs2]
 have hb3:Below w.heap.size w w3':=by rw[hw3'];exact HB2.out.alloc (by omega) _
 have hB3:w3'.heap[w.heap.size]?=some (.cells #[.pointer (some ⟨sb,0,none⟩)] 124 (0,0)):=by rw[hw3'];exact(Below.heap_alloc w2 _ _ (by omega)).trans hB2
 have hG3:w3'.heap[w.heap.size+1]?=some (.cells #[.slice none 0 0] 239 (0,0)):=by rw[hw3'];exact(Below.heap_alloc w2 _ _ (by omega)).trans hG2
 have hP3:w3'.cell? ⟨w.heap.size+2,0,none⟩=some (.pointer (some ⟨s.pb,0,none⟩)):=by rw[hw3',<- hs2];exact cell1 (heap_alloc_new w2 _)
 have HST:Hid (Zao o w sb d s):=HH;have HLT:=Hd hlt;have HK:=Hd hk;have HG:=Hd (Zpo Fence.wide 8 trivial trivial trivial rfl (by omega) (w.heap.size+2) w.heap.size s.pb HH.out.pool hlt (Nat.le_refl _) w3' hb3 (by omega) (by omega) hP3);clear hw3' hB hB2 hG2 cB1 cB2 cS1 cS2 HE HW1 HW2 hs1 hs2 hP3;refine(wpIn_wide (n:=9)).1 ?_;refine Zq9 rfl (by omega) (gf:=236) (lb:=#[.pointer (some ⟨w.heap.size+2,0,none⟩)]) rfl trivial (enters_of Tryz.func236 (by kernel_rfl) rfl) HG.out (by omega) (by rintro k rfl;omega) (fun x=>rfl)
  (Gat d w sb) ?_ ?_ (fun k=>k=w.heap.size\/k=w.heap.size+1) (by rintro k rfl h;omega) ⟨.slice none 0 0,fun _=>none,(⟨fun k=>by simp,hb3,hB3,hG3,RowR.nil _ _ _ _ _,fun k r h=>(by cases h),fun k r h=>(by cases h)⟩:GatS d w sb [] _ w3' (.slice none 0 0) (fun _=>none))⟩
  (fun x a' W W1=>∃ Bn,W.heap.size<=Bn/\W1.heap[Bn]?=some (.cells #[.int .i64 (d.pool.nd x).id,.int .i64 (d.pool.nd x).v,.int .i64 (d.pool.nd x).lo,.int .i64 (d.pool.nd x).hi,.int .i64 (d.pool.nd x).refs] 199 (0,0))/\a'={ tmps:=#[Value.pointer (some { block:=sb,off:=0 }),Value.pointer (some { block:=w.heap.size,off:=0 }),Value.int IntKind.i64 0,Value.pointer (some { block:=w.heap.size+1,off:=0 }),Value.pointer (some { block:=Bn,off:=0 }),undef,undef,Value.pointer (some { block:=sb,off:=0 }),Value.bool false,Value.bool false,Value.pointer (some { block:=sb,off:=0 }),Value.pointer (some { block:=sb,off:=0 }),Value.pointer (some { block:=sb,off:=4 }),Value.int IntKind.i64 ↑d.dead,Value.bool false,Value.bool false,Value.pointer (some { block:=sb,off:=0 }),Value.pointer (some { block:=sb,off:=0 }),Value.pointer (some { block:=sb,off:=1 }),Value.pointer (some { block:=s.pb,off:=0 }),Value.func (Fn.func 236) #[] #[Value.pointer (some { block:=w.heap.size+2,off:=0 })],Za3 (d.pool.nd x),undef,undef,undef,undef,undef,undef,undef,undef,undef,undef,undef,undef,undef,undef,undef,undef,undef,undef,undef,undef,undef,undef,undef,undef,undef,undef,undef,undef,undef,undef,undef,undef,undef,undef,undef,undef,undef,undef,undef,undef,undef,undef,undef,undef,undef],defers:=[] }) ?_ ?_ ?_ ?_
 ·
  rintro pre M W ⟨v,oG,hS⟩ k hk;rcases(hS.mm k).1 hk with rfl|rfl|hg
  ·
   exact⟨Nat.le_refl _,(Array.getElem?_eq_some_iff.1 hS.boxs).1⟩
  ·
   exact⟨by omega,(Array.getElem?_eq_some_iff.1 hS.boxg).1⟩
  ·
   have:=(hS.ge k _ hg).2;exact⟨by omega,hS.lt k _ hg⟩
 ·
  rintro pre M W W' ⟨v,oG,hS⟩ hw;exact⟨v,oG,hS.minds hw⟩
 ·
  rintro x a' W W1 W2 l hl ⟨Bn,h1,h2,h3⟩ hw;exact⟨Bn,h1,(hw.keep Bn (Array.getElem?_eq_some_iff.1 h2).1 (by omega)).trans h2,h3⟩
 ·
  intro l pre x M W K hI hK;simp only[Za3]
  gi_wp2
  exact hK _ _ ((Wr.refl _ W).alloc _) ⟨W.heap.size,Nat.le_refl _,heap_alloc_new W _,rfl⟩
 ·
  rintro l pre x a' M W0 W ⟨v,oG,hS⟩ ⟨Bn,hBn,hbn,rfl⟩ hs0 hs1 hsuf;obtain⟨suf,hsuf⟩:=hsuf;have hx:d.pool.tk x=true:=Zlp hsuf;have hst:=HST.out.below HLT.out hS.low;obtain⟨q0,q1,q2,q3,q4,_⟩:=cells5 hst.blk;obtain⟨n0,n1,n2,n3,n4,_⟩:=cells5 hbn;have hid:=hst.pool.id x hx;rw[hid] at n0;have hbx:Zab d x=some (bnOf (d.pool.nd x)):=by unfold Zab Zam.get;rw[if_pos hx];rfl
  have hxl:x<d.counts.length:=HK.out.live.has x _ hbx;obtain⟨gc,cc,hvc,_⟩:=hst.counts.shape (by omega);have hcell:=hst.counts;rw[hvc] at hcell q3;have hcc:=hcell.cell x (by simpa using hxl);have hval:(d.counts.map nat64)[x]?=some (.int .i64 (Za0 d x:Nat)):=by
   rw[List.getElem?_map,List.getElem?_eq_getElem hxl];simp[nat64,Za0,List.getD,hxl]
  rw[hval] at hcc;have hxi:(x:Int)<d.counts.length:=by omega
  have cb:=cell1 hS.boxs;have cg:=cell1 hS.boxg;have HS:=Hd hS;have HBN:=Hd hbn;have HSUF:=Hd hsuf;have HID:=Hd hid;have hmx:Tryz.prog.follows .mixedOrders=true:=by kernel_rfl
  clear hst hcell hval hvc hsuf hS hid hbx
  by_cases hc:Za0 d x=0
  ·
   rw[hc] at hcc;have hlen:(Zfl d pre).length<1000000000:=by
    have h1:=HST.out.below HLT.out HS.out.low;have h2:=h1.pool.top;have h3:=h1.pool.room;have h4:(Zfl d pre).length<=(Zdt d.pool).length:=by rw[<- HSUF.out];unfold Zfl;refine Nat.le_trans (List.length_filter_le _ _) ?_;simp
    have h5:(Zdt d.pool).length<=d.pool.at_.length:=by unfold Zdt Zd8;refine Nat.le_trans (List.length_filter_le _ _) ?_;simp
    omega
   have HLEN:=Hd hlen;have HC:=Hd hc;clear hlen
   gi_wp2
   refine Zpa W.drew ?_;apply Exists.intro;refine⟨?_,?_⟩
   ·
    gi_region_o
    all_goals exact⟨rfl,rfl,rfl⟩
   gi_wp2_with (gi_at_builtin
                rw[Zgp];refine Zer (wr:=W.drew) 239 199 5 40 _ Tryz.underlying239 Zjl rfl (by decide) rfl _ _ rfl rfl rfl rfl rfl rfl (by simp[Value.oneCell']) HS.out.drew.row HS.out.drew.lt HLEN.out (by decide) ?_;intro g1 k1 w1 o1 hr1 hc1 hl1;have HR1:=Hd hr1;have HC1:=Hd hc1;have HL1:=Hd hl1;clear hr1 hc1 hl1 q0 q1 q2 q3 q4 cb;have hbg1:=(HC1.out.alien (Array.getElem?_eq_some_iff.1 HS.out.boxg).1 (HS.out.no _ (by omega))).trans HS.out.boxg;have cg1:=cell1 hbg1;have fz:∀ k,w1.frozen? ⟨w.heap.size+1,k,none⟩=false:=fun k=>by simp[World.frozen?,hbg1]
                clear cg hbg1)
   have hadd:=HS.out.drew.add HC.out (W1:=w1) (v':=.slice (some ⟨g1,0,none⟩) ((Zfl d pre).length+1) k1) (by
    have e:rnV (d.pool.nd x)=[.int .i64 (x:Nat),.int .i64 (d.pool.nd x).v,.int .i64 (d.pool.nd x).lo,.int .i64 (d.pool.nd x).hi,.int .i64 (d.pool.nd x).refs]:=by unfold rnV;rw[HID.out]
    rw[e];exact HR1.out) HC1.out HL1.out hs0
   obtain⟨M',a1,a2,a3⟩:=hadd;exact⟨M',a1,Wr.trans ((Wr.refl (fun _=>False) W).drew) a2 (fun _ _ e=>e.elim) (fun _ _ e=>e),a3⟩
  ·
   have hc1:((Za0 d x:Int) == 0)=false:=by simpa using hc
   gi_wp2
   refine Zpa W.drew ?_;apply Exists.intro;refine⟨?_,?_⟩
   ·
    gi_region_o
    all_goals exact⟨rfl,rfl,rfl⟩
   gi_wp2
   exact⟨M,⟨v,oG,by have:=HS.out.drew;exact⟨this.mm,this.low,this.boxs,this.boxg,by rw[Zwn hc];exact this.row,this.lt,this.ge⟩⟩,(Wr.refl _ W).drew,fun k hk=>.inl hk⟩
 ·
  rintro D M W2 hD hDM ⟨v,oG,hS⟩ _ hw2 hD3;have HS:=Hd hS;have HD3:=Hd hD3;have cg:=cell1 hS.boxg;obtain⟨ag,cpg,rfl,_⟩:=hS.row.slice;clear hS hD3 hDM hw2 HG hB3 hG3 hb3;go_wp2_with fail;have hcellg:∀ k i,(Zcl d)[k]?=some i->∃ g,ag=some ⟨g,0,none⟩/\o g=none/\∀ j u,(rnV (d.pool.nd i))[j]?=some u->W2.cell? ⟨g,k*5+j,none⟩=some u:=by
   intro k i hi;have hki:k<(Zcl d).length:=(List.getElem?_eq_some_iff.1 hi).1;obtain⟨g,cp,he,hog,_⟩:=HS.out.row.shape (by show 0<(Zcl d).length;omega);cases he;refine⟨g,rfl,?_,fun j u hj=>?_⟩
   ·
    have:=(HS.out.ge g _ hog).2;exact HLT.out.none (by omega)
   ·
    have h5:j<5:=by have:=(List.getElem?_eq_some_iff.1 hj).1;simpa [rnV] using this
    have hf:=Zfk (fun i=>rnV (d.pool.nd i)) 5 (fun _=>rfl) (Zcl d) k j i hi h5;have hlen:((Zcl d).flatMap fun i=>rnV (d.pool.nd i)).length=(Zcl d).length*5:=Zbi _ 5 (fun _=>rfl) _;have hc:=HS.out.row.cell (k*5+j) (by show _<((Zcl d).flatMap fun i=>rnV (d.pool.nd i)).length;rw[hlen];omega);rw[hc];exact hf.trans hj
  have HCG:=Hd hcellg;have HDL:Hid ((Zfl d (Zdt d.pool)).length=(Zcl d).length):=Hd rfl;have HOB:Hid (o w.heap.size=none/\o (w.heap.size+1)=none):=Hd ⟨HLT.out.none (by omega),HLT.out.none (by omega)⟩;have hst2:=HST.out.below HLT.out HS.out.low;have hlt2:Zak o W2:=HLT.out.mono HS.out.low.size;have HST2:=Hd hst2;have HLT2:=Hd hlt2;have hlB:w.heap.size<W2.heap.size:=(Array.getElem?_eq_some_iff.1 HS.out.boxs).1;have hlG:w.heap.size+1<W2.heap.size:=(Array.getElem?_eq_some_iff.1 HS.out.boxg).1;have hdlt:(Zfl d (Zdt d.pool)).length<=1048577:=by
   show (Zcl d).length<=_
   have h2:=hst2.pool.top;have h3:=hst2.pool.room;have h5:(Zcl d).length<=d.pool.at_.length:=by unfold Zcl Zdt Zd8;refine Nat.le_trans (List.length_filter_le _ _) (Nat.le_trans (List.length_filter_le _ _) ?_);simp
   omega
  clear hcellg cg hst2 hlt2;obtain⟨m,hm⟩:∃ m,m=(Zfl d (Zdt d.pool)).length:=⟨_,rfl⟩;rw[<- hm] at hdlt HDL ⊢;have HM:=Hd hm;clear hm
  go_loopw [37] (fun i wr=>∃ k:Nat,k<=m/\i=.int .i64 k/\Zv5 o W2 sb d s k wr) (fun i _=>m-(intOf i).toNat)
  case atStart=>exact⟨0,Nat.zero_le _,rfl,o,d,HST2.out,HLT2.out,Zdu.start HK.out.tab,Chg.refl _ _ _⟩
  case round =>
   obtain⟨k,hk,rfl,hds⟩:=hrel;have hds0:=hds;obtain⟨o1,d1,hs1,hl1,hr1,hc1⟩:=hds
   by_cases hlt':k<m
   ·
    obtain⟨i,hi⟩:∃ i,(Zcl d)[k]?=some i:=⟨_,List.getElem?_eq_getElem (by have:=HDL.out;omega)⟩;obtain⟨htk,hnd⟩:=hr1.at hi;obtain⟨g,hag,hog,hgc⟩:=HCG.out k i hi;subst hag;obtain⟨N,hN⟩:∃ N,N=d.pool.nd i:=⟨_,rfl⟩;rw[<- hN] at hgc hnd;have e0:=hc1.cell (hgc 0 _ rfl) hog;have e1:=hc1.cell (hgc 1 _ rfl) hog;have e2:=hc1.cell (hgc 2 _ rfl) hog;have e3:=hc1.cell (hgc 3 _ rfl) hog;have e4:=hc1.cell (hgc 4 _ rfl) hog;rw[Nat.add_zero] at e0;have cb:=cell1 ((hc1.alien hlB HOB.out.1).trans HS.out.boxs);have hk1:(k:Int)<m:=by omega
    obtain⟨w3,hw3⟩:∃ w3,w3=wr.alloc (.cells #[.int .i64 N.id,.int .i64 N.v,.int .i64 N.lo,.int .i64 N.hi,.int .i64 N.refs] 199):=⟨_,rfl⟩;obtain⟨b6,hb6⟩:∃ b6,b6=wr.heap.size:=⟨_,rfl⟩;have hb3:Below wr.heap.size wr w3:=by rw[hw3];exact Zad _ _
    have hbx:w3.heap[b6]?=some (.cells #[.int .i64 N.id,.int .i64 N.v,.int .i64 N.lo,.int .i64 N.hi,.int .i64 N.refs] 199 (0,0)):=by rw[hw3,hb6];exact heap_alloc_new _ _
    have hob6:o1 b6=none:=hl1.none (by omega);have HOB1:Hid (o1 w.heap.size=none):=Hd (hc1.alien' hlB HOB.out.1);have HW3:Hid (_=w3):=Hd hw3.symm;have HB6:Hid (_=b6):=Hd hb6.symm;have HN:=Hd hN;have hid:N.id=i:=by rw[<- hnd];exact hs1.pool.id i htk
    have hbi:Zab d1 i=some ⟨N.v,N.lo,N.hi⟩:=by unfold Zab Zam.get;rw[if_pos htk,hnd];rfl
    have hv:N.v<d1.vars.length:=by rw[hr1.vars];exact HK.out.dag.var i ⟨N.v,N.lo,N.hi⟩ (by unfold Zab Zam.get;rw[if_pos (Zkf ((List.getElem?_eq_some_iff.1 hi).2 ▸ List.getElem_mem _)).1,<- hN];rfl)
    have hft:d1.tab N.v (N.lo,N.hi)=some i:=(hr1.tab N.v (by rw[<- hr1.vars];exact hv) _ _ _).2 hbi;have hst3:=hs1.below hl1 hb3;have hl3:=hl1.mono hb3.size;obtain⟨gt,ct,hvt,hct,hvl,hts⟩:=hst3.tabAt hv;obtain⟨q0,q1,q2,q3,q4,_⟩:=cells5 hst3.blk;rw[hvt] at q2;obtain⟨n0,n1,n2,n3,n4,_⟩:=cells5 hbx;have cb3:=(hb3.cell (p:=⟨w.heap.size,0,none⟩) (Zaa cb)).trans cb;have hvi:(N.v:Int)<s.ts.length:=by omega
    have HCUT:=Hd (Ztt o1 N.v (s.ts.getD N.v 0) (d1.tab N.v) N.lo N.hi i w3.drew ((hst3.below hl3 (Zai w3 1)).tab N.v hvl) (hl3.mono (Zai w3 1).size) hft);have HS1:=Hd hs1;have HL1:=Hd hl1;have HR1:=Hd hr1;have HC1:=Hd hc1;have HI:=Hd hi;have HND:=Hd hnd;have HB3:=Hd hb3;have HBX:=Hd hbx;have HTK:=Hd htk;have HIDN:=Hd hid;have HST3:=Hd hst3;have HL3:=Hd hl3;clear hgc hds0 hs1 hl1 hr1 hc1 hi hnd hb3 hbx htk hid hbi hv hft hst3 hl3 hvt hw3 hb6 hN hvl;go_upto_region 11 with fail;rw[HW3.out,HB6.out];refine Zap (fun W:World=>W=w3.drew) true 12 [(0,false),(1,false),(2,false),(3,false),(4,false),(5,false),(6,false),(7,false),(8,false),(9,false),(10,false),(11,false),(12,true)] (by kernel_rfl) (by kernel_rfl) rfl ?_;simp only[planned,Zdl]
    iterate 12
     refine Zar rfl ?_;apply Exists.intro;refine⟨fun w' hw=>?_,?_⟩
     ·
      subst hw;go_simp;rfl
     simp only[Zah]
    refine Zdh rfl (by go_simp) (HCUT.out.mono (R':=fun e w'=>∃ v,e=.returned v/\(v=.int .i64 0/\Zde o1 w' N.v (s.ts.getD N.v 0) (putF (d1.tab N.v) (N.lo,N.hi) none)/\Chg (· = .tmap N.v) o1 o1 w3.drew w'/\Zak o1 w')) (fun e w' h=>⟨_,h.1,rfl,h.2⟩)) ?_;rintro _ w4 ⟨rfl,ht4,hc4,hl4⟩;simp only[Zah];refine Zbr ?_;have hst4:=(HST3.out.below HL3.out (Zai w3 1)).setTab (HL3.out.mono (Zai w3 1).size) ht4 hc4;have cb4:=hc4.cell (w:=w3.drew) (p:=⟨w.heap.size,0,none⟩) cb3 (HOB1.out);have n0':=hc4.cell (w:=w3.drew) (p:=⟨b6,0,none⟩) n0 hob6;obtain⟨p0,p1,p2,p3,p4,_⟩:=cells5 hst4.blk;rw[HIDN.out] at n0';have HGIVE:=Hd (Zoq o1 s.pb d1.pool i w4.drew (hst4.below hl4 (Zai w4 1)).pool (hl4.mono (Zai w4 1).size) HTK.out);have HT4:=Hd ht4;have HC4:=Hd hc4;have HL4:=Hd hl4;clear ht4 hc4 hl4 hst4 n0 n1 n2 n3 n4 q0 q1 q2 q3 q4 cb3 cb e0 e1 e2 e3 e4 hct hvi;go_upto_region 12 with fail;refine Zap (fun W:World=>W=w4.drew) true 6 [(0,false),(1,false),(2,false),(3,false),(4,false),(5,false),(6,true)] (by kernel_rfl) (by kernel_rfl) rfl ?_;simp only[planned,Zdl]
    iterate 6
     refine Zar rfl ?_;apply Exists.intro;refine⟨fun w' hw=>?_,?_⟩
     ·
      subst hw;go_simp;rfl
     simp only[Zah]
    refine Zdh rfl (by go_simp) (HGIVE.out.mono (R':=fun e w'=>∃ v,e=.returned v/\(v=.int .i64 0/\∃ o',Zau o' w' s.pb (d1.pool.give i)/\Chg (fun r=>r=.pool\/r=.slots\/r=.taken\/r=.free) o1 o' w4.drew w'/\Zak o' w')) (fun e w' h=>⟨_,h.1,rfl,h.2⟩)) ?_;rintro _ w5 ⟨rfl,o2,hp5,hc5,hl5⟩;simp only[Zah];refine Zbr ?_;have HNX:=Hd (Zv5.next HS1.out HL1.out HR1.out HC1.out HI.out HND.out (HB3.out.trans ((Zai w3 1).mono HB3.out.size)) HT4.out HC4.out HL4.out (Zai w4 1) hp5 hc5 hl5);clear hp5 hc5 hl5 p0 p1 p2 p3 p4 cb4 n0' hlG;go_wp2_with fail;go_roundw
    case rel=>exact⟨k+1,by omega,by go_num,HNX.out⟩
    case measure=>simp[intOf];omega
   ·
    obtain rfl:k=m:=by omega
    have hb0:=(hc1.alien hlB HOB.out.1).trans HS.out.boxs;have hg0:=(hc1.alien hlG HOB.out.2).trans HS.out.boxg;have cb:=cell1 hb0;have cg:=cell1 hg0;obtain⟨q0,q1,q2,q3,q4,qf⟩:=cells5 hs1.blk;have HS1:=Hd hs1;have HL1:=Hd hl1;have HR1:=Hd hr1;have HC1:=Hd hc1;have hsb:sb≠w.heap.size+1:=fun e=>by have h1:=HOB.out.2;have h2:=HST.out.own;rw[e] at h2;rw[h1] at h2;cases h2
    clear hds0 hs1 hl1 hr1 hc1 hb0 hg0;go_wp2_with fail;have hDn:o D=none:=HLT.out.none (by omega);have hDl:D<W2.heap.size:=(Array.getElem?_eq_some_iff.1 HD3.out).1;have hDr:=(HC1.out.alien hDl hDn).trans HD3.out;have hD1:o1 D=none:=HC1.out.alien' hDl hDn;have hsD:D≠sb:=by rintro rfl;have:=HST.out.own;rw[hDn] at this;cases this
    have hkl:k=(Zcl d).length:=HDL.out;refine⟨by simp,.inl ⟨D,_,rfl,run_takeDeferred ((Zaf hsD _).trans hDr),?_⟩⟩;have hfin:Zao o1 (wr.setCell ⟨sb,4,none⟩ (.int .i64 0)) sb (d1.cd d1.counts 0) s:=HS1.out.setDead HL1.out 0;have hcoll:Zbd d (d1.cd d1.counts 0):=(hkl ▸ HR1.out:Zdu d (Zcl d).length d1).done HK.out.live (fun i hi=>(HST.out.pool.tk_lt hi).2);have hfin2:Zax o1 ((wr.setCell ⟨sb,4,none⟩ (.int .i64 0)).putObj D (.deferred none)) sb (d1.cd d1.counts 0) :=
     Zax.keepR ⟨s,hfin⟩ (fun g r hg _=>World.putObj_heap_other (by rintro rfl;rw[hD1] at hg;cases hg)) (fun _ _ h=>h)
    refine⟨_,results_tmp rfl _ _ _,?_,o1,_,hfin2,HL1.out.mono (by simp[World.setCell]),hcoll,?_⟩
    ·
     show Ending.returned (.int .i64 ((Zfl d (Zdt d.pool)).length:Nat))=_
     have:(Zfl d (Zdt d.pool)).length=d.dead:=Znr HK.out.live;rw[this]
    ·
     have hc:=(Chg.of_below HS.out.low Zas o).trans (HC1.out.setCell (p:=⟨sb,4,none⟩) (r:=.store) HS1.out.own (.inl rfl) (.int .i64 0));exact⟨hc.os,hc.tape,hc.output,by have:=hc.size;simpa [World.setCell] using this,fun k hk hr=>(World.putObj_heap_other (by omega)).trans (hc.block k hk hr),hc.ext,hc.new⟩
open Go.RowKit
structure ChgX (C:Nat->Prop) (o o':Own) (w w':World):Prop where
 os:w'.os=w.os
 tape:w'.tape=w.tape
 output:w'.output=w.output
 size:w.heap.size<=w'.heap.size
 block:∀ k,k<w.heap.size->o k=none->¬ C k->w'.heap[k]?=w.heap[k]?
 ext:∀ k r,o k=some r->o' k=some r
 new:∀ k,o' k≠o k->w.heap.size<=k
abbrev NoB:Nat->Prop:=fun _=>False
section
variable {C D:Nat->Prop} {R:Role->Prop} {o o' o'':Own} {w w' w'':World}
theorem ChgX.of_chg (h:Chg R o o' w w') (C:Nat->Prop):ChgX C o o' w w':=⟨h.os,h.tape,h.output,h.size,fun _ hk ho _=>h.alien hk ho,h.ext,fun k hk=>(h.new k hk).1⟩
theorem ChgX.of_wr (h:Wr D w w') (o:Own) (hD:∀ k,k<w.heap.size->D k->C k):ChgX C o o w w':=⟨h.os,h.tape,h.output,h.size,fun k hk _ hc=>h.keep k hk (fun e=>hc (hD k hk e)),fun _ _ h=>h,fun _ h=>(h rfl).elim⟩
theorem ChgX.of_below (h:Below w.heap.size w w') (o:Own) (C:Nat->Prop):ChgX C o o w w':=ChgX.of_wr (Wr.of_below h NoB) o (fun _ _ h=>h.elim)
theorem ChgX.none' (h:ChgX C o o' w w') {k:Nat} (hk:k<w.heap.size) (ho:o k=none):o' k=none:=by
 by_cases e:o' k=o k
 ·
  rw[e];exact ho
 ·
  have:=h.new k e;omega
theorem ChgX.trans (h:ChgX C o o' w w') (h':ChgX D o' o'' w' w'') (hD:∀ k,k<w.heap.size->D k->C k):ChgX C o o'' w w'':=by
 refine⟨h'.os.trans h.os,h'.tape.trans h.tape,h'.output.trans h.output,Nat.le_trans h.size h'.size,fun k hk ho hc=>?_,fun k r hr=>h'.ext k r (h.ext k r hr),fun k hk=>?_⟩
 ·
  exact(h'.block k (Nat.lt_of_lt_of_le hk h.size) (h.none' hk ho) (fun e=>hc (hD k hk e))).trans (h.block k hk ho hc)
 ·
  by_cases e:o' k=o k
  ·
   have:=h'.new k (by rw[e];exact hk);exact Nat.le_trans h.size this
  ·
   exact h.new k e
theorem ChgX.cell (h:ChgX C o o' w w') {p:Addr} {v:Value} (hc:w.cell? p=some v) (hb:o p.block=none) (hn:¬ C p.block):w'.cell? p=some v :=
 (World.cell?_of_block (w:=w) (h.block p.block (World.block_lt_of_cell? w p hc) hb hn)).trans hc
theorem ChgX.below0 (h:ChgX NoB (fun _=>none) o w w'):Below w.heap.size w w':=⟨h.os,h.tape,h.output,h.size,fun k hk=>h.block k hk rfl (fun e=>e)⟩
theorem ChgX.lower (h:ChgX C (fun _=>none) o w w') (h':ChgX D o o' w' w'') (hD:∀ k,D k->w.heap.size<=k):ChgX C (fun _=>none) o' w w'':=h.trans h' (fun k hk e=>by have:=hD k e;omega)
end
structure Zih (C:Nat->Prop) (K:Law) (o:Own) (w:World) (mb:Nat) (m:ManD) (V:Nat->BF) (o':Own) (w':World) (m':ManD) (V':Nat->BF):Prop where
 is:Zc6 (K m'.d V') o' w' mb m'
 lt:Zak o' w'
 chg:ChgX C o o' w w'
 ok:Zan m'.d V'
 ext:Ext m.d V m'.d V'
 hs:m'.hs=m.hs
 next:m'.next=m.next
theorem Step.toX {K:Law} {o o':Own} {w w':World} {mb:Nat} {m m':ManD} {V V':Nat->BF} (h:Step K o w mb m V o' w' m' V') (C:Nat->Prop):Zih C K o w mb m V o' w' m' V':=⟨h.is,h.lt,ChgX.of_chg h.chg C,h.ok,h.ext,h.hs,h.next⟩
theorem Zpt {m m':ManD} {V V':Nat->BF} (h:Zb7 m) (ext:Ext m.d V m'.d V') (ok:Zan m'.d V') (e1:m'.hs=m.hs) (e2:m'.next=m.next):Zb7 m':=by
 refine⟨by rw[e1];exact h.nodup,by rw[e1];exact h.zero,by rw[e1];exact h.one,by rw[e1,e2];exact h.lt,by rw[e2];exact h.next,fun p hp=>?_,by rw[e1,e2];exact h.len,fun i b hb=>?_⟩
 ·
  rw[e1] at hp;exact ext.ok (h.ok p hp)
 ·
  rw[e1];cases hn:Zab m.d i with
  | some b0=>rw[ext.ext i b0 hn];exact h.refs i b0 hn
  | none =>
    rw[ext.ext0 i hn];have hi:i≠0:=by rintro rfl;rw[ok.dag.none0] at hb;cases hb
    have:Zb3 m.hs i=0:=by
     unfold Zb3;rw[List.length_eq_zero_iff,List.filter_eq_nil_iff];intro p hp;have ho:=h.ok p hp;simp only[Bool.and_eq_true,decide_eq_true_eq,beq_iff_eq,not_and];rintro _ rfl;rcases ho with h0|⟨b1,hb1⟩
     ·
      exact hi h0
     ·
      rw[hn] at hb1;cases hb1
    rw[this];rfl
structure SatE (K:Law) (n:Nat) (Od:List Nat->Prop) (room:Nat) (w0:World) (mb:Nat) (fs:List (Int×BF)) (nx:Int) (w:World) (o:Own) (m:ManD) (V:Nat->BF):Prop where
 is:Zc6 (K m.d V) o w mb m
 lt:Zak o w
 ok:Zre m V
 vars:m.d.vars.length=n
 od:Od m.d.vars
 room:m.d.pool.room=room
 next:m.next=nx
 hs:m.hs.map (fun p=>(p.1,ef V p.2))=fs
 chg:ChgX NoB (fun _=>none) o w0 w
section
variable {K:Law} {n:Nat} {Od:List Nat->Prop} {room:Nat} {w0 w w':World} {mb:Nat} {fs:List (Int×BF)} {nx:Int} {o o':Own} {m m':ManD} {V V':Nat->BF}
theorem SatE.find (h:SatE K n Od room w0 mb fs nx w o m V) {k:Int} {F:BF} (hk:(k,F)∈fs):∃ f,(k,f)∈m.hs/\ef V f=F:=by
 rw[<- h.hs] at hk;obtain⟨p,hp,e⟩:=List.mem_map.1 hk;cases e;exact⟨p.2,hp,rfl⟩
theorem SatE.none0 (h:SatE K n Od room w0 mb fs nx w o m V) {k:Nat} (hk:k<w0.heap.size):o k=none:=h.chg.none' hk rfl
theorem Zx8 {hs:List (Int×Nat)} {d:Zag} (hok:∀ p∈hs,okE (Zab d) p.2) (hv:∀ i,(i=0\/∃ b,Zab d i=some b)->V' i=V i):hs.map (fun p=>(p.1,ef V' p.2))=hs.map (fun p=>(p.1,ef V p.2)):=by
 refine List.map_congr_left fun p hp=>?_
 have e:ef V' p.2=ef V p.2:=by
  funext ρ;unfold ef;rw[hv (p.2/2) (hok p hp)]
 rw[e]
theorem SatE.withOd {Od':List Nat->Prop} (h:SatE K n Od room w0 mb fs nx w o m V) (hO:Od' m.d.vars):SatE K n Od' room w0 mb fs nx w o m V :=
 ⟨h.is,h.lt,h.ok,h.vars,hO,h.room,h.next,h.hs,h.chg⟩
theorem SatE.step {C:Nat->Prop} (h:SatE K n Od room w0 mb fs nx w o m V) (s:Zih C K o w mb m V o' w' m' V') (hC:∀ k,C k->w0.heap.size<=k):SatE K n Od room w0 mb fs nx w' o' m' V' :=
 ⟨s.is,s.lt,⟨s.ok,Zpt h.ok.handles s.ext s.ok s.hs s.next⟩,by rw[s.ext.vars];exact h.vars,by rw[s.ext.vars];exact h.od,by rw[s.ext.room];exact h.room,s.next.trans h.next,
  by rw[s.hs,Zx8 h.ok.handles.ok s.ext.val];exact h.hs,h.chg.lower s.chg hC⟩
theorem SatE.other {C:Nat->Prop} (h:SatE K n Od room w0 mb fs nx w o m V) (hx:Wr C w w') (hC:∀ k,k<w.heap.size->C k->w0.heap.size<=k/\o k=none):SatE K n Od room w0 mb fs nx w' o m V:=by
 obtain⟨s,hm⟩:=h.is;refine⟨⟨s,hm.keep (fun g r hg=>hx.keep g (h.lt g r hg) (fun e=>?_)) (fun _ _ h=>h)⟩,h.lt.mono hx.size,h.ok,h.vars,h.od,h.room,h.next,h.hs,h.chg.trans (ChgX.of_wr (C:=fun k=>w0.heap.size<=k) hx o (fun k hk e=>(hC k hk e).1)) (fun k hk e=>by omega)⟩;have:=(hC g (h.lt g r hg) e).2;rw[hg] at this;cases this
theorem SatE.below (h:SatE K n Od room w0 mb fs nx w o m V) (hb:Below w.heap.size w w'):SatE K n Od room w0 mb fs nx w' o m V:=h.other (Wr.of_below hb NoB) (fun _ _ e=>e.elim)
theorem SatE.gave (h:SatE K n Od room w0 mb fs nx w o m V) {r:Nat} (g:Gave K o w mb m V r o' w' m'):SatE K n Od room w0 mb (fs++[(nx,ef V r)]) (nx+1) w' o' m' V :=
 ⟨g.is,g.lt,g.ok,by rw[g.vars];exact h.vars,by rw[g.vars];exact h.od,by rw[g.room];exact h.room,by rw[g.next,h.next],by rw[g.hs,List.map_append,h.hs,<- h.next];rfl,h.chg.lower (ChgX.of_chg g.chg NoB) (fun _ e=>e.elim)⟩
theorem Zf8 {d':Zag} (h:Zb7 m) (hk:Zan m.d V) (r:Zbd m.d d'):Zb7 { m with d:=d' }:=by
 have hok:∀ p∈m.hs,okE (Zab d') p.2:=by
  intro p hp;rcases h.ok p hp with h0|⟨b,hb⟩
  ·
   exact .inl h0
  ·
   by_cases h1:1<p.1
   ·
    refine .inr ⟨b,?_⟩;rw[r.nodes,if_pos]
    ·
     exact hb
    ·
     refine hk.live.cnt.pos_of_ext hb ?_;rw[h.refs _ _ hb];have:0<Zb3 m.hs (p.2/2):=by
      unfold Zb3;refine List.length_pos_of_mem (List.mem_filter.2 ⟨hp,?_⟩);simp[h1]
     omega
   ·
    refine .inl ?_;have hlt:=h.lt p hp;have hu:∀ q∈m.hs,q.1=p.1->q=p:=by
     intro q hq e;have hnd:=h.nodup;have h1:=Zdf (l:=encH m.hs) (Zeg hnd) (List.mem_map.2 ⟨q,hq,rfl⟩);have h2:=Zdf (l:=encH m.hs) (Zeg hnd) (List.mem_map.2 ⟨p,hp,rfl⟩);rw[e,h2] at h1;have e2:(p.2:Int)=(q.2:Int):=by injection h1 with h1;injection h1
     exact Prod.ext e (by omega)
    rcases(by omega:p.1=0\/p.1=1) with e|e
    ·
     rw[<- hu _ h.zero e.symm];rfl
    ·
     rw[<- hu _ h.one e.symm];rfl
 exact⟨h.nodup,h.zero,h.one,h.lt,h.next,hok,h.len,fun i b hb=>by rw[r.ext i b hb];exact h.refs i b (r.sub hb).1⟩
end
theorem wclear {K:Law} {n:Nat} {Od:List Nat->Prop} {room:Nat} {w0 w:World} {mb:Nat} {fs:List (Int×BF)} {nx:Int} {o:Own} {m:ManD} {V:Nat->BF} {s:ManW} (h:SatE K n Od room w0 mb fs nx w o m V) (hs:Zb4 (K m.d V) o w mb m s) (G:Phi) :
 Calls Tryz.prog 196 #[.pointer (some ⟨s.me,0,none⟩)] w fun x w'=>x=.returned (.tuple #[])/\Zb4 G o w' mb m s/\Chg (· = .entries) o o w w'/\Zak o w':=by
 refine(Zro o s.me (K m.d V) G w hs.memo h.lt).mono ?_;rintro x w' ⟨h1,h2,h3,h4⟩;exact⟨h1,hs.setMemo h.lt h2 (h3.mono fun r e=>.inr e),h3,h4⟩
theorem Zg3 {K:Law} {n:Nat} {Od:List Nat->Prop} {room:Nat} {w0 w:World} {mb:Nat} {fs:List (Int×BF)} {nx:Int} {o:Own} {m:ManD} {V:Nat->BF} (h:SatE K n Od room w0 mb fs nx w o m V) :
 Calls Tryz.prog 200 #[.pointer (some ⟨mb,0,none⟩)] w fun x w'=>x=.returned (.int .i64 m.d.dead)/\∃ o' d',SatE K n Od room w0 mb fs nx w' o' { m with d:=d' } V/\Zbd m.d d'/\Chg (fun _=>True) o o' w w':=by
 obtain⟨s,hs⟩:=h.is;obtain⟨c0,c1,c2,c3,c4,c5,f0⟩:=cells6 hs.blk;have HC:Hid (∀ w1,Zb4 (fun _ _ _ _ _=>False) o w1 mb m s/\Chg (· = .entries) o o w w1/\Zak o w1->Calls Tryz.prog 212 #[.pointer (some ⟨s.sb,0,none⟩)] w1 fun x w'=>x=.returned (.int .i64 m.d.dead)/\∃ o' d',SatE K n Od room w0 mb fs nx w' o' { m with d:=d' } V/\Zbd m.d d'/\Chg (fun _=>True) o o' w w'):=by
  refine Hd ?_;rintro w1 ⟨g1,g2,g3⟩;have fin:∀ o' w' d',Zb4 (fun _ _ _ _ _=>False) o' w' mb { m with d:=d' } s->Zak o' w'->Zbd m.d d'->Chg Zas o o' w1 w'->∃ o' d',SatE K n Od room w0 mb fs nx w' o' { m with d:=d' } V/\Zbd m.d d'/\Chg (fun _=>True) o o' w w':=by
   intro o' w' d' a1 a2 a3 a4;have hc:Chg (fun _=>True) o o' w w':=g2.any.trans a4.any;refine⟨o',d',⟨⟨s,a1.mono fun _ _ _ _ _ e=>e.elim⟩,a2,⟨a3.ok h.ok.store,Zf8 h.ok.handles h.ok.store a3⟩,by dsimp only;rw[a3.vars];exact h.vars,by dsimp only;rw[a3.vars];exact h.od,by dsimp only;rw[a3.room];exact h.room,h.next,h.hs,h.chg.lower (ChgX.of_chg hc NoB) (fun _ e=>e.elim)⟩,a3,hc⟩
  by_cases h0:m.d.dead=0
  ·
   refine(Zhr g1.store h0).mono ?_;rintro x w' ⟨rfl,hb⟩;exact⟨by rw[h0];rfl,fin o w' m.d (g1.below g3 hb) (g3.mono hb.size) (Zbd.none h.ok.store h0) (Chg.of_below hb _ _)⟩
  ·
   refine(Zj1 g1.store g3 h.ok.store h0).mono ?_;rintro x w' ⟨rfl,o',d',b1,b2,b3,b4⟩;exact⟨rfl,fin o' w' d' (g1.setStore g3 b1 b4) b2 b3 b4⟩
 have HCL:=Hd (wclear h hs (fun _ _ _ _ _=>False));clear h hs
 go_enter Tryz.func200,Tryz.ntmps200
 go_wp2_with fail;refine HCL.out.mono ?_;rintro x w1 ⟨rfl,g1,g2,g3⟩;obtain⟨d0,d1,d2,d3,d4,d5,f1⟩:=cells6 g1.blk;have HC1:=Hd (HC.out w1 ⟨g1,g2,g3⟩);clear g1 g2 g3 c0 c1 c2 c3 c4 c5 f0 HCL HC;go_wp2_with fail;refine HC1.out.mono ?_;rintro x w2 ⟨rfl,hq⟩;have HQ:=Hd hq;clear hq;go_wp2_with fail;go_ret;exact⟨rfl,HQ.out⟩
open Go.RowKit
def HapG (K:Law) (n:Nat) (Od:List Nat->Prop) (room:Nat) (w0:World) (mb:Nat) (fs:List (Int×BF)) (nx:Int) (ev:Ev):Prop :=
 ∀ (o:Own) (W:World) (m:ManD) (V:Nat->BF),SatE K n Od room w0 mb fs nx W o m V->Calls Tryz.prog 199 #[.pointer (some ⟨mb,0,none⟩),evA ev] W fun x w'=>x=.returned (.tuple #[]) /\
  ∃ o' m' V',SatE K n Od room w0 mb fs nx w' o' m' V'/\m'.waits=m.waits/\m'.calls=m.calls/\(m'.d.pool.many<=m.d.pool.many\/m'.d.pool.many<=fs.length*2^n)/\ChgX NoB o o' W w'
def StE (K:Law) (n:Nat) (Od:List Nat->Prop) (room:Nat) (w0:World) (mb:Nat) (fs:List (Int×BF)) (nx:Int) (St:ManD->Prop) (m':ManD):Prop :=
 ∀ (o:Own) (W:World) (m:ManD) (V:Nat->BF),SatE K n Od room w0 mb fs nx W o m V->m.waits=m'.waits->m.calls=m'.calls->(m.d.pool.many<=m'.d.pool.many\/m.d.pool.many<=fs.length*2^n)->St m
def OpG (K:Law) (n:Nat) (Od:List Nat->Prop) (room:Nat) (w0:World) (mb:Nat) (fs:List (Int×BF)) (nx:Int) (C:Nat->Prop) (B:World->Prop) (St:ManD->Prop) (gop:Nat) (lop:Array Value) (Q:World->ManD->(Nat->BF)->Nat->Prop) (E:Int->ManD->ManD->Prop):Prop :=
 ∀ (o:Own) (W:World) (m:ManD) (V:Nat->BF) (xb:Nat),SatE K n Od room w0 mb fs nx W o m V->B W->(∀ k,C k->k<W.heap.size/\o k=none)->St m->Zdd o W xb mb->¬ C xb ->
  Calls Tryz.prog gop (#[.pointer (some ⟨xb,0,none⟩)]++lop) W fun e w'=>∃ (o':Own) (m':ManD) (V':Nat->BF),Zih C K o W mb m V o' w' m' V'/\B w' /\
   ((∃ r:Nat,e=.returned (.int .i64 r)/\okE (Zab m'.d) r/\Q w' m' V' r) \/
    (∃ er:Int,e=Zb2 er false ev0/\er≠0/\m'.waits=m.waits/\St m'/\E er m m') \/
    (∃ ev,e=Zb2 0 true ev/\m.waits=ev::m'.waits/\StE K n Od room w0 mb fs nx St m'/\HapG K n Od room w0 mb fs nx ev))
theorem Zyz (gop:Nat) (lop:Array Value) (W:World) (xb ob fb:Nat) (R:Nat->World->Prop) (R2:Int->Bool->Ev->World->Prop) (eg:∀ args w,(callFunc gop args).run Tryz.prog w=.ok (.enter gop args) w)
 (hob:W.cell? ⟨ob,0,none⟩=some (.func (.func gop) #[] lop)) (hop:Calls Tryz.prog gop (#[.pointer (some ⟨xb,0,none⟩)]++lop) W fun e w'=>(∃ r:Nat,e=.returned (.int .i64 r)/\R r w'/\(∃ z:Int,w'.cell? ⟨fb,0,none⟩=some (.int .i64 z))/\w'.frozen? ⟨fb,0,none⟩=false) \/
  ∃ er evt ev,e=Zb2 er evt ev/\R2 er evt ev w') :
 Calls Tryz.prog 145 #[.pointer (some ⟨xb,0,none⟩),.pointer (some ⟨ob,0,none⟩),.pointer (some ⟨fb,0,none⟩)] W fun e w'=>(e=.returned (.tuple #[])/\∃ r w1,R r w1/\w'=w1.setCell ⟨fb,0,none⟩ (.int .i64 (r:Nat)))\/∃ er evt ev,e=Zb2 er evt ev/\R2 er evt ev w':=by
 have HOP:=Hd hop;clear hop
 go_enter Tryz.func145,Tryz.ntmps145
 go_wp2_with fail;refine HOP.out.mono ?_;rintro e w' (⟨r,rfl,hr,⟨z,hc⟩,hf⟩|⟨er,evt,ev,rfl,hr⟩)
 ·
  have HR:=Hd hr;clear hr;go_wp2_with fail;go_end0;exact .inl ⟨rfl,r,w',HR.out,rfl⟩
 ·
  have HR:=Hd hr;clear hr;unfold Zb2;go_wp2_with fail;exact⟨rfl,.inr ⟨er,evt,ev,rfl,HR.out⟩⟩
structure RunI (K:Law) (n:Nat) (Od:List Nat->Prop) (room:Nat) (w0:World) (mb:Nat) (fs:List (Int×BF)) (nx:Int) (C:Nat->Prop) (B:World->Prop) (St:ManD->Prop) (gop:Nat) (lop:Array Value) (o0:Own) (w:World) (k:Nat) (full:Bool) (W:World) (o:Own) (m:ManD) (V:Nat->BF):Prop where
 sat:SatE K n Od room w0 mb fs nx W o m V
 bok:B W
 st:St m
 len:m.waits.length=k
 cok:∀ c,C c->c<w.heap.size/\o c=none
 chg:ChgX C o0 o w W
 size:w.heap.size+2<=W.heap.size
 obn:o w.heap.size=none
 fbn:o (w.heap.size+1)=none
 ob:W.heap[w.heap.size]?=some (.cells #[.func (.func gop) #[] lop] 123 (0,0))
 fb:∃ z:Int,W.heap[w.heap.size+1]?=some (.cells #[.int .i64 z] 116 (0,0))
 clean:full=true->m.d.dead=0
def RunF (K:Law) (n:Nat) (Od:List Nat->Prop) (room:Nat) (w0:World) (mb:Nat) (fs:List (Int×BF)) (nx:Int) (C:Nat->Prop) (B:World->Prop) (Q:World->ManD->(Nat->BF)->Nat->Prop) (E:Int->ManD->ManD->Prop) (o0:Own) (w:World) (er:Int) (W:World):Prop :=
 ∃ o m V,SatE K n Od room w0 mb fs nx W o m V/\B W/\ChgX C o0 o w W/\w.heap.size+2<=W.heap.size/\o (w.heap.size+1)=none /\
  ((er=0/\∃ r:Nat,okE (Zab m.d) r/\Q W m V r/\W.heap[w.heap.size+1]?=some (.cells #[.int .i64 r] 116 (0,0))) \/
   (er≠0/\∃ m0:ManD,E er m0 m/\(er=7->m0.d.dead=0)))
theorem Zy0 {K:Law} {n:Nat} {Od:List Nat->Prop} {room:Nat} {w0:World} {mb:Nat} {fs:List (Int×BF)} {nx:Int} {C:Nat->Prop} {B:World->Prop} {St:ManD->Prop} {gop:Nat} {lop:Array Value} {Q:World->ManD->(Nat->BF)->Nat->Prop} {E:Int->ManD->ManD->Prop}
 (hB:∀ W W',B W->(∀ c,C c->W'.heap[c]?=W.heap[c]?)->B W') (hQ:∀ W W' m V r,Q W m V r->(∀ c,C c->W'.heap[c]?=W.heap[c]?)->Q W' m V r) (hSt:∀ (m:ManD) (d:Zag),St m->Zbd m.d d->St { m with d:=d }) (hC0:∀ c,C c->w0.heap.size<=c) (eg:∀ args w,(callFunc gop args).run Tryz.prog w=.ok (.enter gop args) w)
 (hop:OpG K n Od room w0 mb fs nx C B St gop lop Q E) {o:Own} {w:World} {m:ManD} {V:Nat->BF} (h:SatE K n Od room w0 mb fs nx w o m V) (hb:B w) (hC:∀ c,C c->c<w.heap.size/\o c=none) (hst:St m) :
 Calls Tryz.prog 144 #[.pointer (some ⟨mb,0,none⟩),.func (.func 145) #[] #[.pointer (some ⟨w.heap.size,0,none⟩),.pointer (some ⟨w.heap.size+1,0,none⟩)]] (doW gop lop w) fun x w'=>∃ er,x=.returned (.int .i64 er)/\RunF K n Od room w0 mb fs nx C B Q E o w er w':=by
 have hz:(doW gop lop w).heap.size=w.heap.size+2:=by simp[doW]
 have hbd:Below w.heap.size w (doW gop lop w):=(Zad w _).alloc (by simp) _;have hfb:(doW gop lop w).heap[w.heap.size+1]?=some (.cells #[.int .i64 0] 116 (0,0)):=by
  have:=heap_alloc_new (w.alloc (.cells #[.func (.func gop) #[] lop] 123)) (.cells #[.int .i64 0] 116);rw[World.size_alloc] at this;exact this
 have hob:(doW gop lop w).heap[w.heap.size]?=some (.cells #[.func (.func gop) #[] lop] 123 (0,0)):=(Go.heap_alloc_old _ _ (by simp)).trans (heap_alloc_new w _);have hw0:=h.chg.size;have hstart:RunI K n Od room w0 mb fs nx C B St gop lop o w m.waits.length false (doW gop lop w) o m V :=
  ⟨h.below hbd,hB _ _ hb (fun c hc=>hbd.block c (hC c hc).1),hst,rfl,hC,ChgX.of_below hbd o C,by omega,h.lt.none (Nat.le_refl _),h.lt.none (by omega),hob,⟨0,hfb⟩,by simp⟩
 have hother:∀ {k full W W' o1 m1 V1},RunI K n Od room w0 mb fs nx C B St gop lop o w k full W o1 m1 V1->∀ {s:Nat},w.heap.size+2<=s->o1 s=none->o1 (s+1)=none->Ali s W W'->RunI K n Od room w0 mb fs nx C B St gop lop o w k full W' o1 m1 V1:=by
  intro k full W W' o1 m1 V1 hi s hs n0 n1 a;have hsz:=hi.size;have hk:∀ k,k<w.heap.size+2->W'.heap[k]?=W.heap[k]?:=fun k hk=>a.keep k (by omega) (by omega)
  refine⟨hi.sat.other a (fun k _ e=>?_),hB _ _ hi.bok (fun c hc=>hk c (by have:=(hi.cok c hc).1;omega)),hi.st,hi.len,hi.cok,hi.chg.trans (ChgX.of_wr (C:=fun k=>w.heap.size<=k) a o1 (fun k _ e=>by omega)) (fun k hk e=>by omega),Nat.le_trans hi.size a.size,hi.obn,hi.fbn,(hk _ (by omega)).trans hi.ob,?_,hi.clean⟩
  ·
   rcases e with rfl|rfl
   ·
    exact⟨by omega,n0⟩
   ·
    exact⟨by omega,n1⟩
  ·
   obtain⟨z,hz⟩:=hi.fb;exact⟨z,(hk _ (by omega)).trans hz⟩
 have hnext:∀ {k full full' W W' o1 m1 V1 o2 m2 V2},RunI K n Od room w0 mb fs nx C B St gop lop o w k full W o1 m1 V1->SatE K n Od room w0 mb fs nx W' o2 m2 V2->ChgX NoB o1 o2 W W'->m2.waits=m1.waits->St m2->(full'=true->m2.d.dead=0)->RunI K n Od room w0 mb fs nx C B St gop lop o w k full' W' o2 m2 V2:=by
  intro k full full' W W' o1 m1 V1 o2 m2 V2 hi hsat hc e1 e2 e3;have hsz:=hi.size;obtain⟨z,hz⟩:=hi.fb
  exact⟨hsat,hB _ _ hi.bok (fun c hc'=>hc.block c (by have:=(hi.cok c hc').1;omega) (hi.cok c hc').2 (fun e=>e)),e2,by rw[e1];exact hi.len,fun c hc'=>⟨(hi.cok c hc').1,hc.none' (by have:=(hi.cok c hc').1;omega) (hi.cok c hc').2⟩,
   hi.chg.trans hc (fun _ _ e=>e.elim),Nat.le_trans hi.size hc.size,hc.none' (by omega) hi.obn,hc.none' (by omega) hi.fbn,(hc.block _ (by omega) hi.obn (fun e=>e)).trans hi.ob,⟨z,(hc.block _ (by omega) hi.fbn (fun e=>e)).trans hz⟩,e3⟩
 refine Zvl mb _ _ _ Zrt (fun k full W=>∃ o1 m1 V1,RunI K n Od room w0 mb fs nx C B St gop lop o w k full W o1 m1 V1) _ ?_ _ ⟨o,m,V,hstart⟩;rintro k full W ⟨o1,m1,V1,hi⟩;have hsz:=hi.size;obtain⟨s,hs⟩:∃ s,s=W.heap.size:=⟨_,rfl⟩
 refine⟨fun st W1=>match st with
  | none=>∃ (o':Own) (m':ManD) (V':Nat->BF) (r:Nat) (w1:World),SatE K n Od room w0 mb fs nx w1 o' m' V'/\B w1/\ChgX C o o' w w1/\s+3<=w1.heap.size/\(∀ q,w.heap.size<=q->q<s+3->o1 q=none->o' q=none)/\(∃ z:Int,w1.heap[w.heap.size+1]?=some (.cells #[.int .i64 z] 116 (0,0)))/\okE (Zab m'.d) r/\Q w1 m' V' r/\W1=w1.setCell ⟨w.heap.size+1,0,none⟩ (.int .i64 (r:Nat))
  | some (er,evt,ev)=>∃ (o':Own) (m':ManD) (V':Nat->BF),RunI K n Od room w0 mb fs nx C B St gop lop o w m'.waits.length false W1 o' m' V'/\s+3<=W1.heap.size/\(∀ q,w.heap.size<=q->q<s+3->o1 q=none->o' q=none) /\
   ((evt=false/\er≠0/\m'.waits=m1.waits/\E er m1 m')\/(evt=true/\m1.waits=ev::m'.waits/\StE K n Od room w0 mb fs nx St m'/\HapG K n Od room w0 mb fs nx ev)),?_,?_,?_,?_,?_⟩
 ·
  unfold Zta;have hbt:Below W.heap.size W (tryW mb W):=((Zad _ _).alloc (by simp) _).alloc (by simp;omega) _;have hzt:(tryW mb W).heap.size=W.heap.size+3:=by unfold tryW;simp
  obtain⟨T,hT⟩:∃ T,T=tryW mb W:=⟨_,rfl⟩;have h1:(tryW mb W).heap[W.heap.size+2]?=some (.cells #[.pointer (some ⟨mb,0,none⟩)] 170 (0,0)):=by
   have:=heap_alloc_new ((W.alloc (.cells #[.int .i64 0,.bool false,.int .i64 0,.int .i64 0,.int .i64 0] 172)).alloc (.cells #[.bool false] 4)) (.cells #[.pointer (some ⟨mb,0,none⟩)] 170);rw[World.size_alloc,World.size_alloc] at this;exact this
  rw[<- hT] at hbt hzt h1 ⊢;clear hT;have hsatT:=hi.sat.below hbt;have hcx:Zdd o1 T (W.heap.size+2) mb:=⟨cell1 h1,hi.sat.lt.none (by omega)⟩;have hopT:=hop o1 T m1 V1 (W.heap.size+2) hsatT (hB _ _ hi.bok (fun c hc=>hbt.block c (by have:=(hi.cok c hc).1;omega))) (fun c hc=>⟨by have:=(hi.cok c hc).1;omega,(hi.cok c hc).2⟩) hi.st hcx (fun e=>by have:=(hi.cok _ e).1;omega);have hobT:=(hbt.block w.heap.size (by omega)).trans hi.ob;obtain⟨z,hz⟩:=hi.fb;have hfbT:=(hbt.block (w.heap.size+1) (by omega)).trans hz;have hC':∀ q,w.heap.size<=q->¬ C q:=fun q hq e=>by have:=(hi.cok q e).1;omega
  have hkeep:∀ {o':Own} {w1:World},ChgX C o1 o' T w1->∀ q,w.heap.size<=q->q<s+3->o1 q=none->w1.heap[q]?=T.heap[q]?:=fun hc q h1 h2 h3=>hc.block q (by omega) h3 (hC' q h1)
  refine(Zyz gop lop T (W.heap.size+2) w.heap.size (w.heap.size+1) (fun r w1=>∃ o' m' V',Zih C K o1 T mb m1 V1 o' w1 m' V'/\B w1/\okE (Zab m'.d) r/\Q w1 m' V' r)
   (fun er evt ev w1=>∃ o' m' V',Zih C K o1 T mb m1 V1 o' w1 m' V'/\B w1/\((evt=false/\er≠0/\m'.waits=m1.waits/\St m'/\E er m1 m')\/(evt=true/\m1.waits=ev::m'.waits/\StE K n Od room w0 mb fs nx St m'/\HapG K n Od room w0 mb fs nx ev))) eg (cell1 hobT) (hopT.mono ?_)).mono ?_
  ·
   rintro e w1 ⟨o',m',V',st,b1,(⟨r,rfl,q1,q2⟩|⟨er,rfl,q1,q2,q3,q4⟩|⟨ev,rfl,q1,q2,q3⟩)⟩
   ·
    have hf:=(hkeep st.chg (w.heap.size+1) (by omega) (by omega) hi.fbn).trans hfbT;exact .inl ⟨r,rfl,⟨o',m',V',st,b1,q1,q2⟩,⟨z,cell1 hf⟩,by simp[World.frozen?,hf]⟩
   ·
    exact .inr ⟨er,false,ev0,rfl,o',m',V',st,b1,.inl ⟨rfl,q1,q2,q3,q4⟩⟩
   ·
    exact .inr ⟨0,true,ev,rfl,o',m',V',st,b1,.inr ⟨rfl,q1,q2,q3⟩⟩
  ·
   have n0:o1 W.heap.size=none:=hi.sat.lt.none (Nat.le_refl _);have n1:o1 (W.heap.size+1)=none:=hi.sat.lt.none (by omega);rintro e W' (⟨rfl,r,w1,⟨o',m',V',st,b1,q1,q2⟩,rfl⟩|⟨er,evt,ev,rfl,o',m',V',st,b1,q⟩)
   ·
    have hf:=(hkeep st.chg (w.heap.size+1) (by omega) (by omega) hi.fbn).trans hfbT;have hsz1:=st.chg.size;refine⟨by simp[World.setCell];omega,?_,?_,.inl ⟨rfl,o',m',V',r,w1,hsatT.step st hC0,b1,(hi.chg.trans (ChgX.of_below hbt o1 C) (fun _ _ e=>e)).trans st.chg (fun _ _ e=>e),by omega,fun q _ h2 h3=>st.chg.none' (by omega) h3,⟨z,hf⟩,q1,q2,rfl⟩⟩
    ·
     exact(Zaf (by show _≠w.heap.size+1;omega) _).trans (hkeep st.chg _ (by omega) (by omega) n0)
    ·
     exact(Zaf (by show _≠w.heap.size+1;omega) _).trans (hkeep st.chg _ (by omega) (by omega) n1)
   ·
    have hsz1:=st.chg.size;have b2:St m':=by
     rcases q with ⟨_,_,_,q,_⟩|⟨_,_,q,_⟩
     ·
      exact q
     ·
      exact q _ _ _ _ (hsatT.step st hC0) rfl rfl (.inl (Nat.le_refl _))
    have hc1:=(hi.chg.trans (ChgX.of_below hbt o1 C) (fun _ _ e=>e)).trans st.chg (fun _ _ e=>e);refine⟨by omega,hkeep st.chg _ (by omega) (by omega) n0,hkeep st.chg _ (by omega) (by omega) n1,.inr ⟨er,evt,ev,rfl,o',m',V',?_,by omega,fun q _ h2 h3=>st.chg.none' (by omega) h3,q.imp (fun⟨a1,a2,a3,_,a4⟩=>⟨a1,a2,a3,a4⟩) id⟩⟩
    exact⟨hsatT.step st hC0,b1,b2,rfl,fun c hc=>⟨(hi.cok c hc).1,st.chg.none' (by have:=(hi.cok c hc).1;omega) (hi.cok c hc).2⟩,hc1,by omega,st.chg.none' (by omega) hi.obn,st.chg.none' (by omega) hi.fbn,
     (hkeep st.chg _ (by omega) (by omega) hi.obn).trans hobT,⟨z,(hkeep st.chg (w.heap.size+1) (by omega) (by omega) hi.fbn).trans hfbT⟩,by simp⟩
 ·
  rintro W1 W2 ⟨o',m',V',r,w1,a1,a2,a3,a4,a5,⟨z,a6⟩,a7,a8,rfl⟩ al;have hwr:Wr (fun k=>k=w.heap.size+1\/k=s\/k=s+1) w1 W2:=Wr.trans ((Wr.refl (fun k=>k=w.heap.size+1) w1).setCell (p:=⟨w.heap.size+1,0,none⟩) (.inl rfl) _) al (fun k _ e=>.inl e) (fun k _ e=>.inr (by rw[hs];exact e));have n0:o' s=none:=a5 s (by omega) (by omega) (by rw[hs];exact hi.sat.lt.none (Nat.le_refl _));have n1:o' (s+1)=none:=a5 (s+1) (by omega) (by omega) (by rw[hs];exact hi.sat.lt.none (by omega));have nf:o' (w.heap.size+1)=none:=a5 _ (by omega) (by omega) hi.fbn;have hf:=(al.keep (w.heap.size+1) (by simp[World.setCell];omega) (by omega)).trans (Zae a6 _);refine⟨o',m',V',a1.other hwr (fun k _ e=>?_),hB _ _ a2 (fun c hc=>hwr.keep c (by have:=(hi.cok c hc).1;omega) (by have:=(hi.cok c hc).1;omega)),a3.trans (ChgX.of_wr (C:=fun k=>w.heap.size<=k) hwr o' (fun k _ e=>by omega)) (fun k hk e=>by omega),by have:=hwr.size;omega,nf,.inl ⟨rfl,r,a7,hQ _ _ _ _ _ a8 (fun c hc=>hwr.keep c (by have:=(hi.cok c hc).1;omega) (by have:=(hi.cok c hc).1;omega)),hf⟩⟩;rcases e with rfl|rfl|rfl
  ·
   exact⟨by omega,nf⟩
  ·
   exact⟨by omega,n0⟩
  ·
   exact⟨by omega,n1⟩
 ·
  rintro er ev W1 W2 ⟨o',m',V',hi',a4,a5,(⟨h1,_⟩|⟨_,hev,hvs,hap⟩)⟩ al
  ·
   cases h1
  rw[<- hs] at al;have n0:o' s=none:=a5 s (by omega) (by omega) (by rw[hs];exact hi.sat.lt.none (Nat.le_refl _));have n1:o' (s+1)=none:=a5 (s+1) (by omega) (by omega) (by rw[hs];exact hi.sat.lt.none (by omega));have hi2:=hother hi' (by omega) n0 n1 al;refine(hap o' W2 m' V' hi2.sat).mono ?_;rintro x w' ⟨rfl,o2,m2,V2,g1,g2,g3,g5,g4⟩;refine⟨rfl,m'.waits.length,by rw[<- hi.len,hev];simp,o2,m2,V2,hnext hi2 g1 g4 g2 (hvs _ _ _ _ g1 g2 g3 g5) (by simp)⟩
 ·
  rintro ev W1 W2 ⟨o',m',V',hi',a4,a5,(⟨_,_,hw,_⟩|⟨h1,_⟩)⟩ al hfull
  ·
   rw[<- hs] at al;have n0:o' s=none:=a5 s (by omega) (by omega) (by rw[hs];exact hi.sat.lt.none (Nat.le_refl _));have n1:o' (s+1)=none:=a5 (s+1) (by omega) (by omega) (by rw[hs];exact hi.sat.lt.none (by omega));have hi2:=hother hi' (by omega) n0 n1 al;refine(Zg3 hi2.sat).mono ?_;rintro x w' ⟨rfl,o2,d2,g1,g2,g3⟩;have hi3:=hnext (full':=true) hi2 g1 (ChgX.of_chg g3 NoB) rfl (hSt _ _ hi2.st g2) (fun _=>g2.dead);rw[hw,hi.len] at hi3;exact⟨⟨_,rfl⟩,o2,_,V',hi3⟩
  ·
   cases h1
 ·
  rintro er ev W1 W2 ⟨o',m',V',hi',a4,a5,(⟨_,h0,hw,hE⟩|⟨h1,_⟩)⟩ al hne
  ·
   rw[<- hs] at al;have n0:o' s=none:=a5 s (by omega) (by omega) (by rw[hs];exact hi.sat.lt.none (Nat.le_refl _));have n1:o' (s+1)=none:=a5 (s+1) (by omega) (by omega) (by rw[hs];exact hi.sat.lt.none (by omega));have hi2:=hother hi' (by omega) n0 n1 al;refine⟨o',m',V',hi2.sat,hi2.bok,hi2.chg,hi2.size,hi2.fbn,.inr ⟨h0,m1,hE,fun e7=>hi.clean ?_⟩⟩;cases full with
   | true=>rfl
   | false=>exact(hne ⟨e7,rfl⟩).elim
  ·
   cases h1
def Zs4 (K:Law) (n:Nat) (Od:List Nat->Prop) (room:Nat) (w0:World) (mb:Nat) (fs:List (Int×BF)) (nx:Int) (C:Nat->Prop) (B:World->Prop) (Q:World->ManD->(Nat->BF)->Nat->Prop) (E:Int->ManD->ManD->Prop) (o:Own) (w:World) (x:Ending) (w':World):Prop :=
 ∃ o' m' V',B w'/\ChgX C o o' w w' /\
  ((∃ r m1,x=.returned (.tuple #[.int .i64 nx,.int .i64 0])/\SatE K n Od room w0 mb (fs++[(nx,ef V' r)]) (nx+1) w' o' m' V'/\Q w' m1 V' r/\okE (Zab m1.d) r/\Zab m'.d=Zab m1.d/\m'.d.vars=m1.d.vars/\m'.d.level=m1.d.level/\m'.d.pool.many=m1.d.pool.many/\m'.waits=m1.waits/\m'.calls=m1.calls) \/
   (∃ er m0,er≠0/\x=.returned (.tuple #[.int .i64 0,.int .i64 er])/\SatE K n Od room w0 mb fs nx w' o' m' V'/\E er m0 m'/\(er=7->m0.d.dead=0)))
theorem Ztw {K:Law} (hK:Zbp K) {n:Nat} {Od:List Nat->Prop} {room:Nat} {w0:World} {mb:Nat} {fs:List (Int×BF)} {nx:Int} {C:Nat->Prop} {B:World->Prop} {St:ManD->Prop} {gop:Nat} {lop:Array Value} {Q:World->ManD->(Nat->BF)->Nat->Prop} {E:Int->ManD->ManD->Prop}
 (hB:∀ W W',B W->(∀ c,C c->W'.heap[c]?=W.heap[c]?)->B W') (hQ:∀ W W' m V r,Q W m V r->(∀ c,C c->W'.heap[c]?=W.heap[c]?)->Q W' m V r) (hSt:∀ (m:ManD) (d:Zag),St m->Zbd m.d d->St { m with d:=d }) (hC0:∀ c,C c->w0.heap.size<=c) (eg:∀ args w,(callFunc gop args).run Tryz.prog w=.ok (.enter gop args) w)
 (hop:OpG K n Od room w0 mb fs nx C B St gop lop Q E) {o:Own} {w:World} {m:ManD} {V:Nat->BF} (h:SatE K n Od room w0 mb fs nx w o m V) (hb:B w) (hC:∀ c,C c->c<w.heap.size/\o c=none) (hst:St m) (hn:nx<1099511627776) :
 Calls Tryz.prog 75 #[.pointer (some ⟨mb,0,none⟩),.func (.func gop) #[] lop] w (Zs4 K n Od room w0 mb fs nx C B Q E o w):=by
 have hmf:∀ (fn:Fn) (first cap:Array Value) (w:World),(Instr.makeFunc fn first cap).run Tryz.prog w=.ok (.func fn first cap) w:=fun _ _ _ _=>rfl
 have HRUN:=Hd (Zy0 hB hQ hSt hC0 eg hop h hb hC hst);have HLAW:=Hd hK;have HHB:=Hd hB;have HHQ:=Hd hQ;have HNX:=Hd hn;have HCOK:=Hd hC;have hnf:=Zz8 (w.alloc (.cells #[.func (.func gop) #[] lop] 123)) (.func gop) #[] lop;have HW:Hid ((w.alloc (.cells #[.func (.func gop) #[] lop] 123)).alloc (.cells #[.int .i64 0] 116)=doW gop lop w):=Hd rfl;clear h hb hK hB hQ hSt hC0 hop hC hst hn
 go_enter Tryz.func75,Tryz.ntmps75
 go_wp2_with fail;rw[HW.out];refine HRUN.out.mono ?_;rintro x w1 ⟨er,rfl,o1,m1,V1,sat,b1,hc1,hsz1,hnf1,(⟨rfl,r,hr,hq,hcf0⟩|⟨h0,m0,hE,h7⟩)⟩
 rotate_left
 ·
  have HF:Hid (Zs4 K n Od room w0 mb fs nx C B Q E o w (.returned (.tuple #[.int .i64 0,.int .i64 er])) w1):=Hd ⟨o1,m1,V1,b1,hc1,.inr ⟨er,m0,h0,rfl,sat,hE,h7⟩⟩;have h00:(er == 0)=false:=by simpa using h0
  clear h0 hE h7 sat b1 hc1 hsz1 hnf1 HRUN HW;go_wp2_with fail
  go_ret2
  exact HF.out
 have hcf:=cell1 hcf0;obtain⟨s1,hm1⟩:=sat.is;obtain⟨c0,c1,c2,c3,c4,c5,f0⟩:=cells6 hm1.blk;obtain⟨ss,hss⟩:=hm1.store;have hrlt:r<eMax:=by have:=hss.edge_lt hr;unfold eMax;omega
 have HIS:Hid (Calls Tryz.prog 146 #[.pointer (some ⟨s1.sb,0,none⟩),.int .i64 r] w1.drew fun x w'=>x=.returned (.bool true)/\Below w1.heap.size w1 w'):=by
  have h1:=Zbj (hss.below sat.lt (Zai w1 1)) (sat.lt.mono (Zai w1 1).size) r hrlt;rw[Zj9 hr] at h1;exact Hd (h1.mono fun x w' ⟨a,b⟩=>⟨a,Zha (n:=1) b⟩)
 have HST:=Hd sat;have HR:=Hd hr;have HQ:=Hd hq;have HB1:=Hd b1;have HC1:=Hd hc1;have HN1:=Hd hnf1;have lmb:mb<w1.heap.size:=Zaa c0;have lfb:w.heap.size+1<w1.heap.size:=Zaa hcf;clear sat hm1 hss hr hq b1 hc1 hnf1 hsz1 HRUN HW;go_upto_region 9 with fail;refine Zbo (fun W:World=>Below w1.heap.size w1 W) 7 (by kernel_rfl) (Zai w1 1) ?_;refine Zac 0 rfl rfl (by kernel_rfl) ?_;apply Exists.intro;refine⟨fun w' hw=>?_,?_⟩
 ·
  have q1:=(hw.cell (p:=⟨mb,0,none⟩) lmb).trans c0;have q2:=(hw.cell (p:=⟨w.heap.size+1,0,none⟩) lfb).trans hcf;go_simp;rfl
 simp only[Zah];refine Zac 1 rfl rfl (by kernel_rfl) ?_;apply Exists.intro;refine⟨fun w' hw=>?_,?_⟩
 ·
  have q1:=(hw.cell (p:=⟨mb,0,none⟩) lmb).trans c0;have q2:=(hw.cell (p:=⟨w.heap.size+1,0,none⟩) lfb).trans hcf;go_simp;rfl
 simp only[Zah];refine Zac 2 rfl rfl (by kernel_rfl) ?_;apply Exists.intro;refine⟨fun w' hw=>?_,?_⟩
 ·
  have q1:=(hw.cell (p:=⟨mb,0,none⟩) lmb).trans c0;have q2:=(hw.cell (p:=⟨w.heap.size+1,0,none⟩) lfb).trans hcf;go_simp;rfl
 simp only[Zah];refine Zac 3 rfl rfl (by kernel_rfl) ?_;apply Exists.intro;refine⟨fun w' hw=>?_,?_⟩
 ·
  have q1:=(hw.cell (p:=⟨mb,0,none⟩) lmb).trans c0;have q2:=(hw.cell (p:=⟨w.heap.size+1,0,none⟩) lfb).trans hcf;go_simp;rfl
 simp only[Zah];refine Zac 4 rfl rfl (by kernel_rfl) ?_;apply Exists.intro;refine⟨fun w' hw=>?_,?_⟩
 ·
  have q1:=(hw.cell (p:=⟨mb,0,none⟩) lmb).trans c0;have q2:=(hw.cell (p:=⟨w.heap.size+1,0,none⟩) lfb).trans hcf;go_simp;rfl
 simp only[Zah];refine Zal [5] (by kernel_rfl) (fun i hi hS o ho=>?_);simp only[Za6] at hi;subst hi;simp only[Za1] at ho;subst ho;refine⟨rfl,?_⟩;refine Zat (v:=.bool true) (R:=fun w'=>Below w1.heap.size w1 w') (by go_simp) HIS.out ?_;rintro w2 hb2;refine⟨hb2,?_⟩;simp only[Zah];have hcf2:=(hb2.cell (p:=⟨w.heap.size+1,0,none⟩) lfb).trans hcf;have d0:=(hb2.cell (p:=⟨mb,0,none⟩) lmb).trans c0;have HST2:=Hd (HST.out.below hb2);refine Zac 6 rfl rfl (by kernel_rfl) ?_;apply Exists.intro;refine⟨fun w' hw=>?_,?_⟩
 ·
  have q1:=(hw.cell (p:=⟨mb,0,none⟩) lmb).trans c0;have q2:=(hw.cell (p:=⟨w.heap.size+1,0,none⟩) lfb).trans hcf;go_simp;rfl
 simp only[Zah];have hb2':=hb2;clear c0 c1 c2 c3 c4 c5 f0 hcf hcf0 hb2;refine Zbk (by kernel_rfl) ?_;have HG:=Hd (Zmg HLAW.out HST2.out.is HST2.out.lt HST2.out.ok r HR.out (by rw[HST2.out.next];exact HNX.out));have HB2:=Hd hb2';clear hb2';go_wp2_with fail;refine HG.out.mono ?_;rintro x w3 ⟨rfl,o3,m3,hg⟩;have HGV:=Hd hg;have HNX:Hid (m1.next=nx):=Hd HST2.out.next
 clear hg;go_wp2_with fail
 go_ret2
 have hlt2:=HST2.out.lt;have hkc:∀ c,C c->w3.heap[c]?=w1.heap[c]?:=fun c hc=>by
  have h1:=(HCOK.out c hc).1;have h2:=HC1.out.size;have h3:=HB2.out.size;exact(HGV.out.chg.alien (by omega) (HC1.out.none' h1 (HCOK.out c hc).2)).trans (HB2.out.block c (by omega))
 refine⟨o3,m3,V1,HHB.out _ _ HB1.out hkc,(HC1.out.trans (ChgX.of_below HB2.out o1 C) (fun _ _ e=>e)).trans (ChgX.of_chg HGV.out.chg C) (fun _ _ e=>e),.inl ⟨r,m1,by rw[<- HNX.out];rfl,HST2.out.gave HGV.out,HHQ.out _ _ _ _ _ HQ.out hkc,HR.out,HGV.out.nodes,HGV.out.vars,HGV.out.level,HGV.out.many,HGV.out.waits,HGV.out.calls⟩⟩
open Go.RowKit
section
variable {P:Program} {S:World->Prop} {Q:Exit->Act->World->Prop} {R:List PanicEntry->World->Prop} {m:Nat}
def PP (R:List PanicEntry->World->Prop) (Q:Exit->Act->World->Prop):Exit->Act->World->Prop
 | .panic c,a,w=>a.defers=[]/\R c w
 | e,a,w=>Q e a w
theorem Zsn (a:Act) (d:Option Nat) (v:Value):(a.put d v).defers=a.defers:=by cases d<;>rfl
theorem Yat (c:List PanicEntry) (a:Act) (d:Option Nat) (v:Value) (w:World) (h:PP R Q (.panic c) (a.put d v) w):PP R Q (.panic c) a w:=⟨(Zsn a d v).symm.trans h.1,h.2⟩
theorem Zxx {s:Code} {a:Act} {w:World} (hR:∀ c (a:Act) w,a.defers=[]->R c w->Q (.panic c) a w) (h:s.wp P (PP R Q) a w):s.wp P Q a w :=
 Code.wp_mono (fun e a w h=>by cases e<;>first|exact h|exact hR _ _ _ h.1 h.2) h
structure Zlz (P:Program) (l:List Oper) (Q:Exit->Act->World->Prop) (R:List PanicEntry->World->Prop) (S:World->Prop) (m f:Nat) (L:Array Bool) (a:Act) (w:World):Prop where
 goes:Closed l.toArray L->S w->Zkw P l.toArray (PP R Q) S m f L a w
theorem Zcz {id:Nat} {a:Act} {w:World} {l:List Oper} (S:World->Prop) (R:List PanicEntry->World->Prop) (m:Nat) (hR:∀ c (a:Act) w,a.defers=[]->R c w->Q (.panic c) a w) (hm:P.follows .mixedOrders=true) (hS:S w.drew)
 (h:Zlz P l Q R S m l.length (Array.replicate l.toArray.size false) a w.drew):(Code.region id l.toArray true).wp P Q a w :=
 Zxx hR (wp_region_any hm (Zgy _ _ _ _ (h.goes (Zf2 _) hS)))
theorem Zr8 {l:List Oper} {f:Nat} {L:Array Bool} {a:Act} {w:World} (i:Nat) (o:Oper) (v:Value) (hi:l[i]?=some o)
 (hB:(Region.noSelect l.toArray&&(Region.ready .any l.toArray L).contains i&&Region.free .any l.toArray L i&&(decide (l.toArray.size<=m)||reaches l.toArray l.toArray.size i m))=true)
 (hy:∀ w,S w->YieldsIf P l.toArray S o v a) (h:Zlz P l Q R S m f (L.setIfInBounds i true) (a.put o.dst v) w):Zlz P l Q R S m (f+1) L a w:=by
 refine⟨fun hc hS=>?_⟩;simp only[Bool.and_eq_true] at hB;obtain⟨⟨⟨hs,hr⟩,hf⟩,hm⟩:=hB;have hi':l.toArray[i]?=some o:=by simpa using hi
 have hr':i∈Region.ready .any l.toArray L:=by simpa using hr
 exact Zgl hi' hs Yat hm f L a w hc (Region.free_spec hi' hf) hr' (hy w hS) hS (h.goes (hc.set hr') hS)
theorem Zav {l:List Oper} {f:Nat} {L:Array Bool} {a:Act} {w:World} (i:Nat) {o:Oper} (hi:l[i]?=some o) (hg:o.guard=none)
 (hB:(Region.noSelect l.toArray&&(Region.ready .any l.toArray L).contains i&&Region.free .any l.toArray L i&&(decide (l.toArray.size<=m)||reaches l.toArray l.toArray.size i m))=true)
 (h:∃ v,(∀ w,S w->(execOp a.eval o).run P w=.ok (.value v) w)/\Zlz P l Q R S m f (L.setIfInBounds i true) (a.put o.dst v) w):Zlz P l Q R S m (f+1) L a w:=by
 obtain⟨v,h1,h2⟩:=h;exact Zr8 i o v hi hB (fun w _=>.inl ⟨by simp[Region.wanted,hg],h1⟩) h2
theorem Zb5 {l:List Oper} {f:Nat} {L:Array Bool} {a:Act} {w:World} (is:List Nat) (hr:(decide (Region.ready .any l.toArray L=is) && !is.isEmpty)=true)
 (h:∀ i∈is,S w->∀ o,l[i]?=some o->Region.wanted o (yielded l.toArray a.tmps)=true/\o.wp P a w (fun a' w'=>S w'/\Zlz P l Q R S m f (L.setIfInBounds i true) a' w') (PP R Q)):Zlz P l Q R S m (f+1) L a w:=by
 refine⟨fun hc hS=>?_⟩;simp only[Bool.and_eq_true,decide_eq_true_eq] at hr;obtain⟨hr,hne⟩:=hr;refine⟨fun h0=>(by rw[h0] at hr;subst hr;simp at hne),fun i hi=>?_⟩;have hi2:i∈is:=by rw[<- hr];exact hi
 obtain⟨_,o,ho,_⟩:=mem_ready.1 hi;obtain⟨hw,hwp⟩:=h i hi2 hS o (by simpa using ho);unfold wpOp;rw[ho];simp only[hw,if_true];left;refine Oper.wp_mono ?_ hwp;intro a' w' ⟨h1,h2⟩;exact⟨.inr h1,h2.goes (hc.set hi) h1⟩
theorem Zga {l:List Oper} {L:Array Bool} {a:Act} {w:World} (hr:(Region.ready .any l.toArray L).isEmpty=true) (h:Q .normal a w):Zlz P l Q R S m 0 L a w :=
 ⟨fun _ _=>⟨by simpa [List.isEmpty_iff] using hr,h⟩⟩
end
open Go.RowKit
theorem Zfa {P:Program} {o:Oper} {a:Act} {w:World} {K:Act->World->Prop} {Q:Exit->Act->World->Prop} {f:FuncId} {args:Array Value} {R:Value->World->Prop} {R2:List PanicEntry->World->Prop} (he:(execOp a.eval o).run P w=.ok (.enter f args) w)
 (hc:Calls P f args w fun e w'=>(∃ v,e=.returned v/\R v w')\/(∃ ch,e=.panicked ch/\R2 ch w')) (h:∀ v w',R v w'->K (a.put o.dst v) w') (h2:∀ ch w',R2 ch w'->Q (.panic ch) a w'):o.wp P a w K Q:=by
 unfold Oper.wp;simp only[he,Oper.upon];refine hc.mono fun e w' hh=>?_
 rcases hh with ⟨v,h1,h3⟩|⟨ch,h1,h3⟩
 ·
  subst h1;exact h v w' h3
 ·
  subst h1;exact h2 ch w' h3
abbrev C3 (bf bg bh:Nat):Nat->Prop:=fun k=>k=bf\/k=bg\/k=bh
structure B3 (bf bg bh:Nat) (kf kg kh:Int) (W:World):Prop where
 f:W.cell? ⟨bf,0,none⟩=some (.int .i64 kf)
 g:W.cell? ⟨bg,0,none⟩=some (.int .i64 kg)
 h:W.cell? ⟨bh,0,none⟩=some (.int .i64 kh)
theorem B3.keep {bf bg bh:Nat} {kf kg kh:Int} (W W':World) (h:B3 bf bg bh kf kg kh W) (hk:∀ c,C3 bf bg bh c->W'.heap[c]?=W.heap[c]?):B3 bf bg bh kf kg kh W' :=
 ⟨(World.cell?_of_block (w:=W) (a:=⟨bf,0,none⟩) (hk _ (.inl rfl))).trans h.f,(World.cell?_of_block (w:=W) (a:=⟨bg,0,none⟩) (hk _ (.inr (.inl rfl)))).trans h.g,(World.cell?_of_block (w:=W) (a:=⟨bh,0,none⟩) (hk _ (.inr (.inr rfl)))).trans h.h⟩
def Zct (F G H:BF):BF:=fun ρ=>iteB (F ρ) (G ρ) (H ρ)
def SatX (K:Law) (n:Nat) (Od:List Nat->Prop) (room:Nat) (w0:World) (mb:Nat) (fs:List (Int×BF)) (nx:Int) (m:ManD):Prop:=∃ W o V,SatE K n Od room w0 mb fs nx W o m V
def Zpg (lim:Option Nat) (k:Nat) (m:ManD):Prop:=∀ M,lim=some M->m.d.pool.many<=M+k
def QF (ws0:List Ev) (lim:Option Nat) (k:Nat) (F:BF) (_:World) (m':ManD) (V':Nat->BF) (r:Nat):Prop:=ef V' r=F/\m'.waits <:+ ws0/\Zpg lim k m'
def EF (A:ManD->Prop) (k:Nat) (ws0:List Ev) (er:Int) (m m':ManD):Prop:=er=7/\A m/\m'.d.pool.many=m'.d.pool.room/\m'.d.pool.many+1<=m.d.pool.many+k/\m'.waits <:+ ws0
abbrev Zjx (ws0:List Ev) (m:ManD):Prop:=m.waits <:+ ws0
abbrev StL (ws0:List Ev) (lim:Option Nat) (m:ManD):Prop:=Zjx ws0 m/\Zpg lim 0 m
def EL (A:ManD->Prop) (k:Nat) (ws0:List Ev) (lim:Option Nat) (er:Int) (m m':ManD):Prop:=lim=none/\EF A k ws0 er m m'
def Zpf (ws0:List Ev) (lim:Option Nat) (k room:Nat):Prop:=∀ M,lim=some M->ws0=[]/\M+k<=room
theorem Zmj {ws0:List Ev} {lim:Option Nat} {k room:Nat} {m m':ManD} (h:Zpf ws0 lim k room) (h1:Zpg lim 0 m) (h2:m'.d.pool.room+1<=m.d.pool.many+k) (h3:m'.d.pool.room=room):lim=none:=by
 cases lim with
 | none=>rfl
 | some M =>
   have:=(h M rfl).2;have:=h1 M rfl;omega
theorem Zus {ws0 ws:List Ev} {ev:Ev} {lim:Option Nat} {k k' room:Nat} {m:ManD} (h:Zpf ws0 lim k room) (h1:ev::ws <:+ ws0):Zpg lim k' m:=fun M e=>by
 have:=(h M e).1;subst this;simp at h1
theorem Zwr {K:Law} (hK:Zbp K) {n:Nat} {Od:List Nat->Prop} {room:Nat} {w0:World} {mb:Nat} {fs:List (Int×BF)} {nx:Int} (ws0:List Ev) (lim:Option Nat) (hlim:Zpf ws0 lim (2^n-1) room) (hhap:∀ ev∈ws0,HapG K n Od room w0 mb fs nx ev) (bf bg bh:Nat) {kf kg kh:Int} {F G H:BF} (hf:(kf,F)∈fs) (hg:(kg,G)∈fs) (hh:(kh,H)∈fs) :
 OpG K n Od room w0 mb fs nx (C3 bf bg bh) (B3 bf bg bh kf kg kh) (StL ws0 lim) 85 #[.pointer (some ⟨bf,0,none⟩),.pointer (some ⟨bg,0,none⟩),.pointer (some ⟨bh,0,none⟩)] (QF ws0 lim (2^n-1) (Zct F G H)) (EL (SatX K n Od room w0 mb fs nx) (2^n-1) ws0 lim):=by
 intro o W m V xb hsat hB hC hst hcx hnx;obtain⟨f,hf,ef1⟩:=hsat.find hf;obtain⟨g,hg,ef2⟩:=hsat.find hg;obtain⟨h,hh,ef3⟩:=hsat.find hh;have hk:=hsat.ok;have hlt:=hsat.lt;have hks:=hk.store;obtain⟨s,hm⟩:=hsat.is;have hbd:Below W.heap.size W W.drew:=Zai W 1;have hmW:=hm.below hlt hbd;have hlW:=hlt.mono hbd.size;have hxW:Zdd o W.drew xb mb:=⟨(hbd.cell (p:=⟨xb,0,none⟩) (Zaa hcx.cell)).trans hcx.cell,hcx.own⟩;have df:=(hbd.cell (p:=⟨bf,0,none⟩) (Zaa hB.f)).trans hB.f;have dg:=(hbd.cell (p:=⟨bg,0,none⟩) (Zaa hB.g)).trans hB.g;have dh:=(hbd.cell (p:=⟨bh,0,none⟩) (Zaa hB.h)).trans hB.h;have of:=(hC bf (.inl rfl)).2;have og:=(hC bg (.inr (.inl rfl))).2;have oh:=(hC bh (.inr (.inr rfl))).2;have HEF:=Hd (Zcs ⟨s,hmW⟩ hxW hk.handles.nodup hf);have HEG:=Hd (Zcs ⟨s,hmW⟩ hxW hk.handles.nodup hg);have HEH:=Hd (Zcs ⟨s,hmW⟩ hxW hk.handles.nodup hh);have HITE:=Hd (Zlh hK n o W.drew xb mb m V f g h ⟨s,hmW⟩ hlW hxW hks (hk.handles.ok _ hf) (hk.handles.ok _ hg) (hk.handles.ok _ hh) (by rw[hsat.vars];omega));obtain⟨P,hP⟩:∃ P:Ending->World->Prop,P=fun e w'=>∃ (o':Own) (m':ManD) (V':Nat->BF),Zih (C3 bf bg bh) K o W mb m V o' w' m' V'/\B3 bf bg bh kf kg kh w' /\
  ((∃ r:Nat,e=.returned (.int .i64 r)/\okE (Zab m'.d) r/\QF ws0 lim (2^n-1) (Zct F G H) w' m' V' r) \/
   (∃ er:Int,e=Zb2 er false ev0/\er≠0/\m'.waits=m.waits/\StL ws0 lim m'/\EL (SatX K n Od room w0 mb fs nx) (2^n-1) ws0 lim er m m') \/
   (∃ ev,e=Zb2 0 true ev/\m.waits=ev::m'.waits/\StE K n Od room w0 mb fs nx (StL ws0 lim) m'/\HapG K n Od room w0 mb fs nx ev)):=⟨_,rfl⟩
 have HFIN:Hid (∀ e w',Zs6 K n o W.drew mb m V f g h e w'->(∃ v,e=.returned v/\(w'.cell? ⟨bf,0,none⟩=some (.int .i64 kf)/\w'.cell? ⟨bg,0,none⟩=some (.int .i64 kg)/\w'.cell? ⟨bh,0,none⟩=some (.int .i64 kh))/\P (.returned v) w')\/(∃ ch,e=.panicked ch/\P (.panicked ch) w')):=by
  refine Hd ?_;subst hP;rintro e w' ⟨o',m',V',st,hcase⟩;have hb3:B3 bf bg bh kf kg kh w':=⟨st.chg.cell df of,st.chg.cell dg og,st.chg.cell dh oh⟩;have stx:Zih (C3 bf bg bh) K o W mb m V o' w' m' V':=Step.toX (K:=K) ⟨st.is,st.lt,(Chg.of_below hbd _ o).trans st.chg,st.ok,st.ext,st.hs,st.next⟩ _;have hp2:0<2^n:=Nat.pow_pos (by omega);rcases hcase with ⟨r,rfl,h1,h2,h3⟩|⟨rfl,h2,h3,h4⟩|⟨ev,rfl,h1⟩
  ·
   refine .inl ⟨_,rfl,⟨hb3.f,hb3.g,hb3.h⟩,o',m',V',stx,hb3,.inl ⟨r,rfl,h1.okR,?_,by rw[h2];exact hst.1,fun M e=>by have:=hst.2 M e;omega⟩⟩;have e1:=(st.ext.ef (hk.handles.ok _ hf)).trans ef1;have e2:=(st.ext.ef (hk.handles.ok _ hg)).trans ef2;have e3:=(st.ext.ef (hk.handles.ok _ hh)).trans ef3;dsimp only at e1 e2 e3;funext ρ;rw[h1.val ρ,e1,e2,e3];rfl
  ·
   have hl0:lim=none:=Zmj hlim hst.2 (by rw[<- h3];omega) (by rw[st.ext.room];exact hsat.room);exact .inr ⟨_,rfl,o',m',V',stx,hb3,.inr (.inl ⟨7,rfl,by omega,h2,⟨by unfold Zjx;rw[h2];exact hst.1,by subst hl0;exact fun M e=>by cases e⟩,hl0,rfl,⟨_,_,_,hsat⟩,h3,by omega,by rw[h2];exact hst.1⟩)⟩
  ·
   refine .inr ⟨_,rfl,o',m',V',stx,hb3,.inr (.inr ⟨ev,rfl,h1,?_,?_⟩)⟩
   all_goals
    have hst':m.waits <:+ ws0:=hst.1;rw[h1] at hst'
    first|exact fun _ _ _ _ _ e _ _=>⟨by unfold Zjx;rw[e];exact(List.suffix_cons ev m'.waits).trans hst',Zus hlim hst'⟩|exact hhap ev (hst'.subset (List.mem_cons_self ..))
 rw[<- hP];clear hm hks hk hcx hB hC hst hnx hhap hlim hK hlt hf hg hh of og oh hmW hlW hxW hbd hsat hP ef1 ef2 ef3
 go_enter Tryz.func85,Tryz.ntmps85
 go_upto_region 1 with fail;refine Zcz (fun W:World=>W.cell? ⟨bf,0,none⟩=some (.int .i64 kf)/\W.cell? ⟨bg,0,none⟩=some (.int .i64 kg)/\W.cell? ⟨bh,0,none⟩=some (.int .i64 kh)) (fun ch w'=>P (.panicked ch) w') 12 (fun c a w hd h=>⟨hd,h⟩) (by kernel_rfl) ⟨df,dg,dh⟩ ?_;refine Zav 0 rfl rfl (by kernel_rfl) ?_;apply Exists.intro;refine⟨fun w' hw=>?_,?_⟩
 ·
  obtain⟨q1,q2,q3⟩:=hw;go_simp;rfl
 simp only[Zah];refine Zav 1 rfl rfl (by kernel_rfl) ?_;apply Exists.intro;refine⟨fun w' hw=>?_,?_⟩
 ·
  obtain⟨q1,q2,q3⟩:=hw;go_simp;rfl
 simp only[Zah];refine Zav 2 rfl rfl (by kernel_rfl) ?_;apply Exists.intro;refine⟨fun w' hw=>?_,?_⟩
 ·
  obtain⟨q1,q2,q3⟩:=hw;go_simp;rfl
 simp only[Zah];refine Zav 4 rfl rfl (by kernel_rfl) ?_;apply Exists.intro;refine⟨fun w' hw=>?_,?_⟩
 ·
  obtain⟨q1,q2,q3⟩:=hw;go_simp;rfl
 simp only[Zah];refine Zav 5 rfl rfl (by kernel_rfl) ?_;apply Exists.intro;refine⟨fun w' hw=>?_,?_⟩
 ·
  obtain⟨q1,q2,q3⟩:=hw;go_simp;rfl
 simp only[Zah];refine Zav 7 rfl rfl (by kernel_rfl) ?_;apply Exists.intro;refine⟨fun w' hw=>?_,?_⟩
 ·
  obtain⟨q1,q2,q3⟩:=hw;go_simp;rfl
 simp only[Zah];refine Zav 8 rfl rfl (by kernel_rfl) ?_;apply Exists.intro;refine⟨fun w' hw=>?_,?_⟩
 ·
  obtain⟨q1,q2,q3⟩:=hw;go_simp;rfl
 simp only[Zah];refine Zb5 [3] (by kernel_rfl) (fun i hi hS o ho=>?_);simp only[Za6] at hi;subst hi;simp only[Za1] at ho;subst ho;refine⟨rfl,?_⟩;refine Zat (v:=.int .i64 (f:Nat)) (R:=fun w'=>W.drew=w') (by go_simp) HEF.out ?_;rintro w' rfl;refine⟨⟨df,dg,dh⟩,?_⟩;simp only[Zah];refine Zb5 [6] (by kernel_rfl) (fun i hi hS o ho=>?_);simp only[Za6] at hi;subst hi;simp only[Za1] at ho;subst ho;refine⟨rfl,?_⟩;refine Zat (v:=.int .i64 (g:Nat)) (R:=fun w'=>W.drew=w') (by go_simp) HEG.out ?_;rintro w' rfl;refine⟨⟨df,dg,dh⟩,?_⟩;simp only[Zah];refine Zb5 [9] (by kernel_rfl) (fun i hi hS o ho=>?_);simp only[Za6] at hi;subst hi;simp only[Za1] at ho;subst ho;refine⟨rfl,?_⟩;refine Zat (v:=.int .i64 (h:Nat)) (R:=fun w'=>W.drew=w') (by go_simp) HEH.out ?_;rintro w' rfl;refine⟨⟨df,dg,dh⟩,?_⟩;simp only[Zah];refine Zb5 [10] (by kernel_rfl) (fun i hi hS o ho=>?_);simp only[Za6] at hi;subst hi;simp only[Za1] at ho;subst ho;refine⟨rfl,?_⟩;refine Zfa (R:=fun v w'=>(w'.cell? ⟨bf,0,none⟩=some (.int .i64 kf)/\w'.cell? ⟨bg,0,none⟩=some (.int .i64 kg)/\w'.cell? ⟨bh,0,none⟩=some (.int .i64 kh))/\P (.returned v) w') (R2:=fun ch w'=>P (.panicked ch) w') (by go_simp) (HITE.out.mono HFIN.out) ?_ ?_
 ·
  rintro v w' ⟨hS,hst⟩;refine⟨hS,?_⟩;have HST:=Hd hst;clear hst;simp only[Zah];refine Zav 11 rfl rfl (by kernel_rfl) ?_;apply Exists.intro;refine⟨fun w' hw=>?_,?_⟩
  ·
   go_simp;rfl
  simp only[Zah];refine Zga (by kernel_rfl) ?_;clear hS df dg dh;go_wp2_with fail;exact HST.out
 ·
  intro ch w' hst;exact⟨rfl,hst⟩
abbrev C1 (b:Nat):Nat->Prop:=fun k=>k=b
structure B1 (b:Nat) (v:Int) (W:World):Prop where
 c:W.cell? ⟨b,0,none⟩=some (.int .i64 v)
theorem B1.keep {b:Nat} {v:Int} (W W':World) (h:B1 b v W) (hk:∀ c,C1 b c->W'.heap[c]?=W.heap[c]?):B1 b v W':=⟨(World.cell?_of_block (w:=W) (a:=⟨b,0,none⟩) (hk _ rfl)).trans h.c⟩
theorem Zxw {K:Law} (hK:Zbp K) {n:Nat} {Od:List Nat->Prop} {room:Nat} {w0:World} {mb:Nat} {fs:List (Int×BF)} {nx:Int} (ws0:List Ev) (lim:Option Nat) (hlim:Zpf ws0 lim 1 room) (hhap:∀ ev∈ws0,HapG K n Od room w0 mb fs nx ev) (v vb:Nat) (hv:v<n) :
 OpG K n Od room w0 mb fs nx (C1 vb) (B1 vb v) (StL ws0 lim) 84 #[.pointer (some ⟨vb,0,none⟩)] (QF ws0 lim 1 (varF v)) (EL (SatX K n Od room w0 mb fs nx) 1 ws0 lim):=by
 intro o W m V xb hsat hB hC hst hx hnx;have hk:=hsat.ok;have hlt:=hsat.lt;have hks:=hk.store;have o0:okE (Zab m.d) 0:=.inl rfl;have o1:okE (Zab m.d) 1:=.inl rfl;have hl0:lvE m.d.vars.length (levN m.d) (Zab m.d) 0=m.d.vars.length:=Zgb hks rfl;have hl1:lvE m.d.vars.length (levN m.d) (Zab m.d) 1=m.d.vars.length:=Zgb hks rfl;have hvl:v<m.d.vars.length:=by rw[hsat.vars];exact hv
 have hlv:=hks.dag.lt v hvl;have HMK:=Hd (Zj3 hK hsat.is hlt hx hks v 1 0 o1 o0);have cvb:=hB.c;have ob:=(hC vb rfl).2;obtain⟨P,hP⟩:∃ P:Ending->World->Prop,P=fun e w'=>∃ (o':Own) (m':ManD) (V':Nat->BF),Zih (C1 vb) K o W mb m V o' w' m' V'/\B1 vb v w' /\
  ((∃ r:Nat,e=.returned (.int .i64 r)/\okE (Zab m'.d) r/\QF ws0 lim 1 (varF v) w' m' V' r) \/
   (∃ er:Int,e=Zb2 er false ev0/\er≠0/\m'.waits=m.waits/\StL ws0 lim m'/\EL (SatX K n Od room w0 mb fs nx) 1 ws0 lim er m m') \/
   (∃ ev,e=Zb2 0 true ev/\m.waits=ev::m'.waits/\StE K n Od room w0 mb fs nx (StL ws0 lim) m'/\HapG K n Od room w0 mb fs nx ev)):=⟨_,rfl⟩
 have HFIN:Hid (∀ e w',Zhp K o W mb m V v 1 0 e w'->(∃ r:Nat,e=.returned (.int .i64 r)/\P (.returned (.int .i64 r)) w')\/(∃ er evt ev,e=Zb2 er evt ev/\P (Zb2 er evt ev) w')):=by
  refine Hd ?_;subst hP;rintro e w' ⟨o',m',V',st,hcase⟩;have hb1:B1 vb v w':=⟨st.chg.cell cvb ob⟩;have stx:Zih (C1 vb) K o W mb m V o' w' m' V':=st.toX _;rcases hcase with ⟨ev,h1,_,_,_,_,rfl⟩|⟨h1,_,_,(⟨er,her,hd,_,rfl⟩|⟨_,_,r,rfl,h2,h3,_,h5⟩)⟩
  ·
   refine .inr ⟨0,true,ev,rfl,o',m',V',stx,hb1,.inr (.inr ⟨ev,rfl,h1,?_,?_⟩)⟩
   all_goals
    have hst':m.waits <:+ ws0:=hst.1;rw[h1] at hst'
    first|exact fun _ _ _ _ _ e _ _=>⟨by unfold Zjx;rw[e];exact(List.suffix_cons ev m'.waits).trans hst',Zus hlim hst'⟩|exact hhap ev (hst'.subset (List.mem_cons_self ..))
  ·
   refine .inr ⟨er,false,ev0,rfl,o',m',V',stx,hb1,.inr (.inl ?_)⟩;rcases her with ⟨_,h⟩|⟨_,_,_,h⟩|⟨rfl,h⟩
   ·
    exact(h ⟨by omega,by omega⟩).elim
   ·
    simp only[Int.toNat_natCast] at h;omega
   ·
    have hl0:lim=none:=Zmj (m':=m') hlim hst.2 (by rw[hd];omega) (by rw[st.ext.room];exact hsat.room);exact⟨7,rfl,by omega,h1,⟨by unfold Zjx;rw[h1];exact hst.1,by subst hl0;exact fun M e=>by cases e⟩,hl0,rfl,⟨_,_,_,hsat⟩,by rw[hd];exact h,by rw[hd];omega,by rw[h1];exact hst.1⟩
  ·
   refine .inl ⟨r,rfl,o',m',V',stx,hb1,.inl ⟨r,rfl,h2,?_,by rw[h1];exact hst.1,fun M e=>by have:=hst.2 M e;omega⟩⟩;rw[h3];funext ρ;have a0:=Zhg hks.dag.one ρ;have a1:=Zj5 hks.dag.one ρ;simp only[iteF,varF,Int.toNat_natCast,a0,a1];cases ρ v<;>rfl
 rw[<- hP];clear hks o0 o1 hl0 hl1 hlv hvl hk hx hC hK hv hlt hB hnx hst hP ob hsat hlim
 go_enter Tryz.func84,Tryz.ntmps84
 go_wp2_with fail;refine HMK.out.mono ?_;intro e w' hp;rcases HFIN.out e w' hp with ⟨r,rfl,hst⟩|⟨er,evt,ev,rfl,hst⟩
 ·
  have HST:=Hd hst;clear hp hst;go_wp2_with fail;exact HST.out
 ·
  have HST:=Hd hst;clear hp hst;unfold Zb2;go_wp2_with fail;exact⟨rfl,HST.out⟩
def Zi0 (K:Law) (n:Nat) (Od:List Nat->Prop) (room:Nat) (w0:World) (mb:Nat) (fs:List (Int×BF)) (nx:Int) (ws0:List Ev) (lim:Option Nat) (k:Nat) (F:BF) (o:Own) (w:World) (x:Ending) (w':World):Prop :=
 ∃ o' m' V',ChgX NoB o o' w w'/\m'.waits <:+ ws0/\((x=.returned (.tuple #[.int .i64 nx,.int .i64 0])/\Zpg lim k m'/\SatE K n Od room w0 mb (fs++[(nx,F)]) (nx+1) w' o' m' V') \/
  (x=.returned (.tuple #[.int .i64 0,.int .i64 7])/\lim=none/\SatE K n Od room w0 mb fs nx w' o' m' V'/\∃ m0,SatX K n Od room w0 mb fs nx m0/\m0.d.dead=0/\room+1<=m0.d.pool.many+k))
theorem StL.coll {ws0:List Ev} {lim:Option Nat} (m:ManD) (d:Zag) (h:StL ws0 lim m) (r:Zbd m.d d):StL ws0 lim { m with d:=d }:=⟨h.1,fun M e=>by have:=h.2 M e;have:=r.many;show d.pool.many<=M+0;omega⟩
theorem Zol {K:Law} {n:Nat} {Od:List Nat->Prop} {room:Nat} {w0:World} {mb:Nat} {fs:List (Int×BF)} {nx:Int} {ws0:List Ev} {lim:Option Nat} {k:Nat} {F:BF} {o:Own} {w w1 w':World} {C:Nat->Prop} {B:World->Prop} {x:Ending} (hb:Below w.heap.size w w1) (hC:∀ c,C c->w.heap.size<=c)
 (h:Zs4 K n Od room w0 mb fs nx C B (QF ws0 lim k F) (EL (SatX K n Od room w0 mb fs nx) k ws0 lim) o w1 x w'):Zi0 K n Od room w0 mb fs nx ws0 lim k F o w x w':=by
 obtain⟨o',m',V',_,hc,hcase⟩:=h;have hc':ChgX NoB o o' w w':=(ChgX.of_below hb o NoB).trans hc (fun k hk e=>by have:=hC k e;omega);rcases hcase with ⟨r,m1,rfl,hs,⟨q1,q2,q4⟩,_,_,_,_,q5,q3,_⟩|⟨er,m0,_,rfl,hs,⟨hl0,rfl,hm0,h1,h2,h3⟩,h7⟩
 ·
  exact⟨o',m',V',hc',by rw[q3];exact q2,.inl ⟨rfl,fun M e=>by rw[q5];exact q4 M e,by rw[<- q1];exact hs⟩⟩
 ·
  refine⟨o',m',V',hc',h3,.inr ⟨rfl,hl0,hs,m0,hm0,h7 rfl,?_⟩⟩;have:=hs.room;omega
theorem Zsd {K:Law} (hK:Zbp K) {n:Nat} {Od:List Nat->Prop} {room:Nat} {w0:World} {mb:Nat} {fs:List (Int×BF)} {nx:Int} {w:World} {o:Own} {m:ManD} {V:Nat->BF} (h:SatE K n Od room w0 mb fs nx w o m V) (ws0:List Ev) (hws:m.waits <:+ ws0) (lim:Option Nat) (hlim:Zpf ws0 lim (2^n-1) room) (hl0:Zpg lim 0 m) (hhap:∀ ev∈ws0,HapG K n Od room w0 mb fs nx ev) (hn:nx<1099511627776)
 {kf kg kh:Int} {F G H:BF} (hf:(kf,F)∈fs) (hg:(kg,G)∈fs) (hh:(kh,H)∈fs) :
 Calls Tryz.prog 21 #[.pointer (some ⟨mb,0,none⟩),.int .i64 kf,.int .i64 kg,.int .i64 kh] w (Zi0 K n Od room w0 mb fs nx ws0 lim (2^n-1) (Zct F G H) o w):=by
 have hmf:∀ (fn:Fn) (first cap:Array Value) (w:World),(Instr.makeFunc fn first cap).run Tryz.prog w=.ok (.func fn first cap) w:=fun _ _ _ _=>rfl
 obtain⟨hb,cf,cg,ch⟩:=Zyt kf kg kh w;have hw0:=h.chg.size;have hz:(box3 kf kg kh w).heap.size=w.heap.size+3:=by simp[box3]
 have HDO:Hid (Calls Tryz.prog 75 #[.pointer (some ⟨mb,0,none⟩),.func (.func 85) #[] #[.pointer (some ⟨w.heap.size,0,none⟩),.pointer (some ⟨w.heap.size+1,0,none⟩),.pointer (some ⟨w.heap.size+1+1,0,none⟩)]] (box3 kf kg kh w) (Zi0 K n Od room w0 mb fs nx ws0 lim (2^n-1) (Zct F G H) o w)):=by
  refine Hd ?_;refine(Ztw hK B3.keep (fun _ _ _ _ _ h _=>h) StL.coll ?_ Zpq (Zwr hK ws0 lim hlim hhap w.heap.size (w.heap.size+1) (w.heap.size+1+1) hf hg hh) (h.below hb) ⟨cf,cg,ch⟩ ?_ ⟨hws,hl0⟩ hn).mono fun x w' hp=>Zol hb ?_ hp
  ·
   rintro c (rfl|rfl|rfl)<;>omega
  ·
   rintro c (rfl|rfl|rfl)<;>exact⟨by omega,h.lt.none (by omega)⟩
  ·
   rintro c (rfl|rfl|rfl)<;>omega
 have HW:Hid (_=box3 kf kg kh w):=Hd (show ((w.alloc (.cells #[.int .i64 kf] 3)).alloc (.cells #[.int .i64 kg] 3)).alloc (.cells #[.int .i64 kh] 3)=box3 kf kg kh w from rfl);clear h hK hws hhap hn hf hg hh hb cf cg ch hw0 hz hlim hl0;obtain⟨P,hP⟩:∃ P,P=Zi0 K n Od room w0 mb fs nx ws0 lim (2^n-1) (Zct F G H) o w:=⟨_,rfl⟩;rw[<- hP] at HDO ⊢;have HT:Hid (∀ x w',P x w'->∃ a b,x=.returned (.tuple #[.int .i64 a,.int .i64 b])):=by
  refine Hd ?_;subst hP;rintro x w' ⟨_,_,_,_,_,(⟨rfl,_⟩|⟨rfl,_⟩)⟩
  ·
   exact⟨_,_,rfl⟩
  ·
   exact⟨_,_,rfl⟩
 clear hP
 go_enter Tryz.func21,Tryz.ntmps21
 go_wp2_with fail;rw[HW.out];refine HDO.out.mono ?_;intro x w' hd;obtain⟨a,b,rfl⟩:=HT.out x w' hd;have HD:=Hd hd;clear hd;go_wp2_with fail;exact HD.out
theorem Zlo {K:Law} (hK:Zbp K) {n:Nat} {Od:List Nat->Prop} {room:Nat} {w0:World} {mb:Nat} {fs:List (Int×BF)} {nx:Int} {w:World} {o:Own} {m:ManD} {V:Nat->BF} (h:SatE K n Od room w0 mb fs nx w o m V) (ws0:List Ev) (hws:m.waits <:+ ws0) (lim:Option Nat) (hlim:Zpf ws0 lim 1 room) (hl0:Zpg lim 0 m) (hhap:∀ ev∈ws0,HapG K n Od room w0 mb fs nx ev) (hn:nx<1099511627776)
 (v:Nat) (hv:v<n) :
 Calls Tryz.prog 20 #[.pointer (some ⟨mb,0,none⟩),.int .i64 v] w (Zi0 K n Od room w0 mb fs nx ws0 lim 1 (varF v) o w):=by
 have hmf:∀ (fn:Fn) (first cap:Array Value) (w:World),(Instr.makeFunc fn first cap).run Tryz.prog w=.ok (.func fn first cap) w:=fun _ _ _ _=>rfl
 obtain⟨w1,hw1⟩:∃ w1,w1=w.alloc (.cells #[.int .i64 (v:Nat)] 3):=⟨_,rfl⟩;have hb1:Below w.heap.size w w1:=by rw[hw1];exact Zad w _
 have hvb:w1.heap[w.heap.size]?=some (.cells #[.int .i64 (v:Nat)] 3 (0,0)):=by rw[hw1];exact heap_alloc_new w _
 have cvb:w1.cell? ⟨w.heap.size,0,none⟩=some (.int .i64 (v:Nat)):=cell1 hvb;have hz1:w1.heap.size=w.heap.size+1:=by rw[hw1];simp
 have hw0:=h.chg.size;obtain⟨s,hms⟩:=h.is;have hm1:=hms.below h.lt hb1;obtain⟨c0,c1,c2,c3,c4,c5,f0⟩:=cells6 hm1.blk;obtain⟨ss,hss⟩:=hm1.store;have hlz:Zfy m.d v=(levN m.d v:Nat):=Zoe (by rw[hss.len,h.vars];exact hv);have HLV:Hid (∀ n,Calls Tryz.prog 83 #[.pointer (some ⟨s.sb,0,none⟩),.int .i64 (v:Nat)] (w1.drewN n) fun x w'=>x=.returned (.int .i64 (levN m.d v:Nat))/\w1.drewN n=w'):=by
  refine Hd fun n=>?_
  have:=Zhm (hss.below (h.lt.mono hb1.size) (Zai w1 n)) v (by rw[hss.len];have:=h.ok.store.small;omega);rw[hlz] at this;exact this
 obtain⟨P,hP⟩:∃ P,P=Zi0 K n Od room w0 mb fs nx ws0 lim 1 (varF v) o w:=⟨_,rfl⟩;have HDO:Hid (∀ q,Calls Tryz.prog 75 #[.pointer (some ⟨mb,0,none⟩),.func (.func 84) #[] #[.pointer (some ⟨w.heap.size,0,none⟩)]] (w1.drewN q) P):=by
  refine Hd fun q=>?_
  rw[hP];have hb2:Below w.heap.size w (w1.drewN q):=hb1.trans ((Zai w1 q).mono hb1.size);refine(Ztw hK B1.keep (fun _ _ _ _ _ h _=>h) StL.coll ?_ Zpr (Zxw hK ws0 lim hlim hhap v w.heap.size hv) (h.below hb2) ⟨cvb⟩ ?_ ⟨hws,hl0⟩ hn).mono fun x w' hp=>Zol hb2 ?_ hp
  ·
   rintro c rfl;omega
  ·
   rintro c rfl;exact⟨by have:=hb2.size;show w.heap.size<w1.heap.size;omega,h.lt.none (by omega)⟩
  ·
   rintro c rfl;omega
 have HT:Hid (∀ x w',P x w'->∃ a b,x=.returned (.tuple #[.int .i64 a,.int .i64 b])):=by
  refine Hd ?_;rw[hP];rintro x w' ⟨_,_,_,_,_,(⟨rfl,_⟩|⟨rfl,_⟩)⟩
  ·
   exact⟨_,_,rfl⟩
  ·
   exact⟨_,_,rfl⟩
 rw[<- hP];have HW:Hid (w.alloc (.cells #[.int .i64 (v:Nat)] 3)=w1):=Hd hw1.symm;clear hm1 hss hlz hms hb1 hvb hw1 hK hn hv hws hhap h hw0 hz1 hP hlim hl0
 go_enter Tryz.func20,Tryz.ntmps20
 go_upto_region 3 with fail;rw[HW.out]
 go_quiet (with_reducible exact Zb9 (HLV.out _))
 go_wp2_with fail;refine(HDO.out _).mono ?_;intro x w' hd;obtain⟨a,b,rfl⟩:=HT.out x w' hd;have HD:=Hd hd;clear hd;go_wp2_with fail;exact HD.out
open Go.RowKit
section
variable {K:Law} {n:Nat} {Od:List Nat->Prop} {room:Nat} {w0 w:World} {mb:Nat} {fs:List (Int×BF)} {nx:Int} {o:Own} {m:ManD} {V:Nat->BF}
theorem SatE.eval (h:SatE K n Od room w0 mb fs nx w o m V) {k:Int} {F:BF} (hk:(k,F)∈fs) {v:Value} {bs:List Bool} (hbs:Ze0 w v bs) :
 Calls Tryz.prog 96 #[.pointer (some ⟨mb,0,none⟩),.int .i64 k,v] w fun x w'=>x=.returned (.tuple #[.bool (F (Zc7 bs)),.int .i64 0])/\Below w.heap.size w w':=by
 obtain⟨f,hf,e1⟩:=h.find hk;obtain⟨a,c,rfl,h1,_⟩:=hbs;rw[<- e1];exact Zwf h.is h.lt h.ok hf a c bs h1
theorem SatE.vars_any (h:SatE K n Od room w0 mb fs nx w o m V):Calls Tryz.prog 74 #[.pointer (some ⟨mb,0,none⟩)] w fun x w'=>x=.returned (.int .i64 n)/\w=w':=by
 have:=Zkc h.is;rw[h.vars] at this;exact this
theorem SatE.handles_any (h:SatE K n Od room w0 mb fs nx w o m V):Calls Tryz.prog 61 #[.pointer (some ⟨mb,0,none⟩)] w fun x w'=>x=.returned (.int .i64 (fs.length:Nat))/\w=w':=by
 have e:fs.length=m.hs.length:=by rw[<- h.hs,List.length_map]
 rw[e];exact Go.Proofs.YtmofaapnkidioaaGreat.Zza h.is
theorem Zww (h:SatE K n Od room w0 mb fs nx w o m V) (q:Nat) (hq:q<=1000000) :
 Calls Tryz.prog 30 #[.pointer (some ⟨mb,0,none⟩),.int .i64 q] w fun x w'=>x=.returned (.bool (decide (fs.length=q+2)))/\w=w':=by
 have HH:=Hd h.handles_any;have HF:Hid ((((fs.length:Nat):Int) == (q:Int)+2)=decide (fs.length=q+2)):=by
  refine Hd ?_
  show (((fs.length:Nat):Int) == (q:Int)+2)=_
  by_cases e:fs.length=q+2
  ·
   rw[decide_eq_true e,beq_iff_eq];omega
  ·
   rw[decide_eq_false e,beq_eq_false_iff_ne];omega
 clear h
 go_enter Tryz.func30,Tryz.ntmps30
 go_wp2_with fail;refine HH.out.mono ?_;rintro x w' ⟨rfl,rfl⟩;go_wp2_with fail;go_ret;exact⟨by rw[<- HF.out];rfl,rfl⟩
theorem Zv9 (i:Nat) (hi:i<=1048576):(IntKind.u64).wrap (i:Int)=(i:Int):=by
 simp[IntKind.wrap,IntKind.bits];omega
theorem Zx9 (h:SatE K n Od room w0 mb fs nx w o m V) (hn:n<=16) {k:Int} {F:BF} (hk:(k,F)∈fs) {v:Value} {bs:List Bool} (hbs:Ze0 w v bs) :
 Calls Tryz.prog 31 #[.pointer (some ⟨mb,0,none⟩),.int .i64 k,v] w fun x w'=>∃ b,x=.returned (.bool b)/\(b=true↔bs=tabB n F)/\Below w.heap.size w w':=by
 have HV:=Hd h.vars_any;have HC:=Hd (Zot false n hn w);have HEV:Hid (∀ W,Below w.heap.size w W->∀ u cs,Ze0 W u cs->Calls Tryz.prog 96 #[.pointer (some ⟨mb,0,none⟩),.int .i64 k,u] W fun x w'=>x=.returned (.tuple #[.bool (F (Zc7 cs)),.int .i64 0])/\Below W.heap.size W w') :=
  Hd fun W hb u cs hu=>(h.below hb).eval hk hu
 have HOF:Hid (∀ i,i<=1048576->∀ W,Calls Tryz.prog 97 #[.int .u64 (i:Nat),.int .i64 n] W fun x w'=>∃ v,x=.returned v/\OwnB w' W.heap.size v (Zdz i n)/\Below W.heap.size W w'):=Hd fun i hi W=>Zve i n hi hn W
 obtain⟨a,c,rfl,hb0,hnil⟩:=hbs;have HBS:=Hd hb0;have hbl:=hb0.len;have hp:=Zh9 (show n<=20 by omega);obtain⟨L,hL⟩:∃ L,L=2^n:=⟨_,rfl⟩;have HL:=Hd hL;rw[<- hL] at hp HC;clear h hL hb0 hnil
 go_enter Tryz.func31,Tryz.ntmps31
 go_wp2_with fail;refine HV.out.mono ?_;rintro x w' ⟨rfl,rfl⟩;go_wp2_with fail;refine HC.out.mono ?_;rintro x w1 ⟨g,rfl,_,hb1⟩
 by_cases hlen:bs.length=L
 ·
  have hne:((bs.length:Int) != (L:Int))=false:=by rw[hlen];simp
  have HB1:=Hd hb1;clear hb1 HC HV;go_wp2_with fail
  go_loopw [8,21] (fun s8 s21 wr=>∃ j:Nat,j<=L/\s21=.int .i64 j/\Below w.heap.size w wr/\Hid (∀ q,q<j->bs.getD q false=F (Zc7 (Zdz q n)))) (fun _ s21 _=>L-(intOf s21).toNat)
  case atStart=>exact⟨0,Nat.zero_le _,rfl,HB1.out,Hd fun q hq=>by omega⟩
  case round =>
   obtain⟨j,hj,rfl,hbel,HQ⟩:=hrel
   by_cases hlt:j<L
   ·
    have HBEL:=Hd hbel;clear hbel;have hcv:=Zv9 j (by omega);have hjs:(j:Int)<bs.length:=by omega
    obtain⟨b1,of1,rfl,c1⟩:=(HBS.out.below HBEL.out).cells j (by omega);go_wp2_with fail;refine(HOF.out j (by omega) _).mono ?_;rintro x w3 ⟨u,rfl,hown,hb3⟩;have HB3:=Hd hb3;have c3:=(hb3.cell (p:=⟨b1,of1+j,none⟩) (Zaa c1)).trans c1;have HU:=Hd (hown.boolsIs (by rw[Zew];omega));clear hown hb3 c1;go_wp2_with fail;refine(HEV.out _ (HBEL.out.trans (HB3.out.mono HBEL.out.size)) _ _ HU.out).mono ?_;rintro x w4 ⟨rfl,hb4⟩;have c4:=(hb4.cell (p:=⟨b1,of1+j,none⟩) (Zaa c3)).trans c3;have HB5:=Hd (HBEL.out.trans ((HB3.out.trans (hb4.mono HB3.out.size)).mono HBEL.out.size));clear hb4 c3;obtain⟨y1,hy1⟩:∃ y,y=bs.getD j false:=⟨_,rfl⟩;obtain⟨y2,hy2⟩:∃ y,y=F (Zc7 (Zdz j n)):=⟨_,rfl⟩;rw[<- hy1] at c4;rw[<- hy2];have HQ2:Hid (y2=y1->∀ q,q<j+1->bs.getD q false=F (Zc7 (Zdz q n))):=Hd fun hyy q hq=>by
     rcases Nat.lt_or_ge q j with h|h
     ·
      exact HQ.out q h
     ·
      obtain rfl:q=j:=by omega
      rw[<- hy1,<- hy2,hyy]
    have HNE:Hid (y2≠y1->bs≠tabB n F):=Hd fun hyy e=>hyy (by rw[hy1,hy2,e,Zq6 (by rw[<- HL.out];exact hlt)])
    clear hy1 hy2;cases y1<;>cases y2
    ·
     go_wp2_with fail;go_roundw
     case rel=>exact⟨j+1,by omega,by go_num,HB5.out,Hd (HQ2.out (by simp))⟩
     case measure=>simp[intOf];omega
    ·
     go_wp2_with fail;go_ret;exact⟨false,rfl,by simpa using HNE.out (by simp),HB5.out⟩
    ·
     go_wp2_with fail;go_ret;exact⟨false,rfl,by simpa using HNE.out (by simp),HB5.out⟩
    ·
     go_wp2_with fail;go_roundw
     case rel=>exact⟨j+1,by omega,by go_num,HB5.out,Hd (HQ2.out (by simp))⟩
     case measure=>simp[intOf];omega
   ·
    have he:j=L:=by omega
    have HBEL:=Hd hbel;have HE:Hid (bs=tabB n F):=Hd (Zzw (by rw[hlen,HL.out]) (fun i hi=>HQ.out i (by rw[he,HL.out];exact hi)));clear hbel;go_wp2_with fail;go_ret;exact⟨true,rfl,by simpa using HE.out,HBEL.out⟩
 ·
  have hne:((bs.length:Int) != (L:Int))=true:=by simp;omega
  have HB1:=Hd hb1;have HNE:Hid (bs≠tabB n F):=Hd fun e=>hlen (by rw[e,Zeo,HL.out])
  clear hb1 HC HV hlen;go_wp2_with fail;go_ret;exact⟨false,rfl,by simpa using HNE.out,HB1.out⟩
end
section
variable {K:Law} {n:Nat} {Od:List Nat->Prop} {room:Nat} {w0 w:World} {mb:Nat} {fs:List (Int×BF)} {nx:Int} {o:Own} {m:ManD} {V:Nat->BF}
end
open Go.RowKit
structure LawL (W:World) (o:Own) (base:Nat) (vl:Value) (ks:List Int):Prop where
 own:OwnC 3 W base vl (Zbh ks)
 no:∀ k,vl.ownBlock=some k->o k=none
structure LawB (W:World) (o:Own) (base:Nat) (v:Value) (bs:List Bool):Prop where
 is:Ze0 W v bs
 no:∀ k,v.ownBlock=some k->base<=k/\k<W.heap.size/\o k=none/\∃ cur,W.heap[k]?=some (.cells cur 4 (0,0))
structure LawX (W:World) (o:Own) (base:Nat) (vx:Value) (us:List (List Bool)):Prop where
 ex:∃ rs:List Value,rs.length=us.length/\OwnC 34 W base vx rs/\∀ i v,rs[i]?=some v->LawB W o base v (us.getD i [])
 no:∀ k,vx.ownBlock=some k->o k=none
section
variable {W W':World} {o o':Own} {base:Nat} {vl vx v:Value} {ks:List Int} {us:List (List Bool)} {bs:List Bool}
theorem LawL.chg (h:LawL W o base vl ks) (hc:ChgX NoB o o' W W'):LawL W' o' base vl ks :=
 ⟨h.own.same fun k hk=>hc.block k (h.own.lt k hk).2 (h.no k hk) (fun e=>e),fun k hk=>hc.none' (h.own.lt k hk).2 (h.no k hk)⟩
theorem LawB.chg (h:LawB W o base v bs) (hc:ChgX NoB o o' W W'):LawB W' o' base v bs :=
 ⟨h.is.same fun k hk=>hc.block k (h.no k hk).2.1 (h.no k hk).2.2.1 (fun e=>e),fun k hk=>by
  obtain⟨h1,h2,h3,cur,h4⟩:=h.no k hk;exact⟨h1,Nat.lt_of_lt_of_le h2 hc.size,hc.none' h2 h3,cur,(hc.block k h2 h3 (fun e=>e)).trans h4⟩⟩
theorem LawX.chg (h:LawX W o base vx us) (hc:ChgX NoB o o' W W'):LawX W' o' base vx us:=by
 obtain⟨rs,h1,h2,h3⟩:=h.ex;exact⟨⟨rs,h1,h2.same fun k hk=>hc.block k (h2.lt k hk).2 (h.no k hk) (fun e=>e),fun i v hv=>(h3 i v hv).chg hc⟩,fun k hk=>hc.none' (h2.lt k hk).2 (h.no k hk)⟩
theorem Zcr (hb:Below W.heap.size W W') (o:Own):ChgX NoB o o W W':=ChgX.of_below hb o NoB
theorem LawL.typ {C:Nat->Prop} (h:LawL W o base vl ks) (hw:Wr C W W') {T:TypeId} (hT:T≠3) (hC:∀ k,C k->∃ cur,W.heap[k]?=some (.cells cur T (0,0))):LawL W' o base vl ks :=
 ⟨h.own.same fun k hk=>hw.keep k (h.own.lt k hk).2 fun e=>by
  obtain⟨c1,h1⟩:=hC k e;obtain⟨c2,h2⟩:=h.own.typed k hk;rw[h1] at h2;cases h2;exact hT rfl,h.no⟩
theorem LawB.typ {C:Nat->Prop} (h:LawB W o base v bs) (hw:Wr C W W') {T:TypeId} (hT:T≠4) (hC:∀ k,C k->∃ cur,W.heap[k]?=some (.cells cur T (0,0))):LawB W' o base v bs:=by
 have hk:∀ k,v.ownBlock=some k->W'.heap[k]?=W.heap[k]?:=fun k hk=>by
  obtain⟨h1,h2,h3,cur,h4⟩:=h.no k hk;exact hw.keep k h2 fun e=>by
   obtain⟨c1,q1⟩:=hC k e;rw[q1] at h4;cases h4;exact hT rfl
 exact⟨h.is.same hk,fun k hkk=>by
  obtain⟨h1,h2,h3,cur,h4⟩:=h.no k hkk;exact⟨h1,Nat.lt_of_lt_of_le h2 hw.size,h3,cur,(hk k hkk).trans h4⟩⟩
theorem LawX.typ {C:Nat->Prop} (h:LawX W o base vx us) (hw:Wr C W W') {T:TypeId} (hT:T≠4) (hT2:T≠34) (hC:∀ k,C k->∃ cur,W.heap[k]?=some (.cells cur T (0,0))):LawX W' o base vx us:=by
 obtain⟨rs,h1,h2,h3⟩:=h.ex
 exact⟨⟨rs,h1,h2.same fun k hk=>hw.keep k (h2.lt k hk).2 fun e=>by
  obtain⟨c1,q1⟩:=hC k e;obtain⟨c2,q2⟩:=h2.typed k hk;rw[q1] at q2;cases q2;exact hT2 rfl,fun i v hv=>(h3 i v hv).typ hw hT hC⟩,h.no⟩
theorem Zra {v':Value} (h1:W'.os=W.os) (h2:W'.tape=W.tape) (h3:W'.output=W.output) (h4:W.heap.size<=W'.heap.size) (hk:Zdv v v' W W'):Wr (fun k=>v.ownBlock=some k) W W' :=
 ⟨h1,h2,h3,h4,fun k hlt hn=>hk.keep k hlt (fun e=>hn e.symm)⟩
theorem LawL.app {v':Value} {k:Int} (h:LawL W o base vl ks) (hlt:Zak o W) (hn:OwnC 3 W' base v' (Zbh ks++[.int .i64 k])) (hk:Zdv vl v' W W'):LawL W' o base v' (ks++[k]):=by
 refine⟨by rw[show Zbh (ks++[k])=Zbh ks++[.int .i64 k] by simp[Zbh]];exact hn,fun q hq=>?_⟩;rcases hk.loc with e|⟨g,e,hg⟩
 ·
  exact h.no q (by rw[<- e];exact hq)
 ·
  rw[e] at hq;cases hq;exact hlt.none hg
theorem LawX.app {v':Value} (h:LawX W o base vx us) (hlt:Zak o W) {rs:List Value} (hrs:rs.length=us.length) (hall:∀ i v,rs[i]?=some v->LawB W o base v (us.getD i [])) (hw:Wr (fun k=>vx.ownBlock=some k) W W') (hT:∀ k,vx.ownBlock=some k->∃ cur,W.heap[k]?=some (.cells cur 34 (0,0)))
 (hb:LawB W o base v bs) (hn:OwnC 34 W' base v' (rs++[v])) (hk:Zdv vx v' W W'):LawX W' o base v' (us++[bs]):=by
 refine⟨⟨rs++[v],by simp[hrs],hn,fun i u hu=>?_⟩,fun q hq=>?_⟩
 ·
  rcases Nat.lt_or_ge i rs.length with hi|hi
  ·
   rw[List.getElem?_append_left hi] at hu;have e:(us++[bs]).getD i []=us.getD i []:=by simp[List.getD,List.getElem?_append_left (show i<us.length by omega)]
   rw[e];exact(hall i u hu).typ hw (by decide) hT
  ·
   rw[List.getElem?_append_right hi] at hu;have hi2:i=rs.length:=by
    have:=(List.getElem?_eq_some_iff.1 hu).1;simp at this;omega
   subst hi2;simp at hu;subst hu;have e:(us++[bs]).getD rs.length []=bs:=by rw[hrs];simp[List.getD]
   rw[e];exact hb.typ hw (by decide) hT
 ·
  rcases hk.loc with e|⟨g,e,hg⟩
  ·
   exact h.no q (by rw[<- e];exact hq)
  ·
   rw[e] at hq;cases hq;exact hlt.none hg
theorem Zwv {n:Nat} (h:OwnB W' W.heap.size v bs) (hl:bs.length<=1000000) (hlt:Zak o W) (hb:base<=W.heap.size):LawB W' o base v bs :=
 ⟨OwnC.boolsIs h hl,fun k hk=>by
  have h1:=h.lt k hk;exact⟨by omega,h1.2,hlt.none h1.1,h.typed k hk⟩⟩
end
open Go.RowKit
def okI (z:Int):Prop:=-9223372036854775808<=z/\z<=9223372036854775807
inductive ExT where
 | nil
 | mk (op v:Int) (n:Nat) (kid:Nat->ExT)
def sumN:Nat->(Nat->Nat)->Nat
 | 0,_=>0
 | k+1,f=>sumN k f+f k
theorem Zvs {f:Nat->Nat} {j:Nat}:∀ (k:Nat),j<k->f j<=sumN k f
 | 0,h=>by omega
 | k+1,h=>by
   unfold sumN
   by_cases e:j=k
   ·
    subst e;omega
   ·
    have:=Zvs (f:=f) k (show j<k by omega);omega
def ExT.size:ExT->Nat
 | .nil=>1
 | .mk _ _ n kid=>1+sumN n fun i=>(kid i).size
theorem ExT.size_pos (e:ExT):1<=e.size:=by cases e<;>unfold ExT.size<;>omega
instance:Inhabited ExT:=⟨.nil⟩
theorem ExT.kid_size {op v:Int} {n:Nat} {kid:Nat->ExT} {i:Nat} (h:i<n):(kid i).size<(ExT.mk op v n kid).size:=by
 have h1:(kid i).size<=sumN n fun i=>(kid i).size:=Zvs (f:=fun i=>(kid i).size) n h
 show (kid i).size<1+sumN n fun i=>(kid i).size
 omega
def Zaq (w:World):ExT->Value->Prop
 | .nil,_=>False
 | .mk op v n kid,x=>∃ a c,x=.agg #[.int .i64 op,.int .i64 v,.slice a n c]/\okI op/\okI v/\n<=9223372036854775807 /\
  ∀ k,k<n->∃ b off x0 x1 x2,a=some ⟨b,off,none⟩/\w.cell? ⟨b,off+k*3,none⟩=some x0/\w.cell? ⟨b,off+k*3+1,none⟩=some x1/\w.cell? ⟨b,off+k*3+2,none⟩=some x2/\Zaq w (kid k) (.agg #[x0,x1,x2])
theorem Zaq.below {w w':World} (hb:Below w.heap.size w w'):∀ (e:ExT) {x:Value},Zaq w e x->Zaq w' e x
 | .nil,_,h=>by unfold Zaq at h;exact h.elim
 | .mk op v n kid,x,h=>by
   unfold Zaq at h ⊢;obtain⟨a,c,h1,h2,h3,h4,h5⟩:=h;refine⟨a,c,h1,h2,h3,h4,fun k hk=>?_⟩;obtain⟨b,off,x0,x1,x2,rfl,c0,c1,c2,hx⟩:=h5 k hk;exact⟨b,off,x0,x1,x2,rfl,(hb.cell (p:=⟨b,off+k*3,none⟩) (Zaa c0)).trans c0,(hb.cell (p:=⟨b,off+k*3+1,none⟩) (Zaa c1)).trans c1,(hb.cell (p:=⟨b,off+k*3+2,none⟩) (Zaa c2)).trans c2,Zaq.below hb (kid k) hx⟩
theorem Zom:∀ (e:ExT) (x:Value) (q:Nat) (w:World),q<=1000->Zaq w e x ->
 Calls Tryz.prog 66 #[x,.int .i64 q] w fun y w'=>(∃ r:Nat,y=.returned (.int .i64 r)/\1<=r/\r<=q+1/\(r<=q->r=e.size))/\Below w.heap.size w w'
 | .nil,x,q,w,hq,h=>by unfold Zaq at h;exact h.elim
 | .mk op v n kid,x,q,w,hq,h=>by
   unfold Zaq at h;obtain⟨a,c,rfl,h2,h3,h4,h5⟩:=h;have H5:=Hd h5;have HSZ:Hid ((ExT.mk op v n kid).size=1+sumN n fun i=>(kid i).size):=Hd rfl;have IH:Hid (∀ (i:Nat) (x:Value) (z:Int) (q:Nat) (W:World),z=(q:Int)->q<=1000->Zaq W (kid i) x->Calls Tryz.prog 66 #[x,.int .i64 z] W fun y w'=>(∃ r:Nat,y=.returned (.int .i64 r)/\1<=r/\r<=q+1/\(r<=q->r=(kid i).size))/\Below W.heap.size W w') :=
    Hd fun i x z q W hz h1 h2=>by subst hz;exact Zom (kid i) x q W h1 h2
   obtain⟨E,hE⟩:∃ E,E=ExT.mk op v n kid:=⟨_,rfl⟩;rw[<- hE] at HSZ ⊢;obtain⟨w1,hw1⟩:∃ w1,w1=w.alloc (.cells #[.int .i64 op,.int .i64 v,.slice a n c] 86):=⟨_,rfl⟩;have HW1:Hid (_=w1):=Hd hw1.symm;have HB1:Hid (Below w.heap.size w w1):=by rw[hw1];exact Hd (Zad _ _)
   have hblk:w1.heap[w.heap.size]?=some (.cells #[.int .i64 op,.int .i64 v,.slice a n c] 86 (0,0)):=by rw[hw1];exact heap_alloc_new _ _
   have hs1:w1.heap.size=w.heap.size+1:=by rw[hw1];simp
   have d2:w1.cell? ⟨w.heap.size,2,none⟩=some (.slice a n c):=by rw[cell_of_row _ _ 2 _ _ _ hblk];rfl
   clear h5 hE hw1 hblk h2 h3
   go_enter Tryz.func66,Tryz.ntmps66
   go_upto_region 1 with fail;rw[HW1.out];go_wp2_with fail
   go_loopw [5,6] (fun s5 s6 wr=>∃ i r:Nat,i<=n/\1<=r/\i<r/\r<=q+1/\s5=.int .i64 r/\s6=.int .i64 i/\Below w1.heap.size w1 wr/\Hid (r<=q->r=1+sumN i fun i=>(kid i).size)) (fun _ s6 _=>n-(intOf s6).toNat)
   case atStart=>exact⟨0,1,by omega,by omega,by omega,by omega,rfl,rfl,Below.refl _ _,Hd fun _=>rfl⟩
   case round =>
    obtain⟨i,r,hi,hr1,hir,hr2,rfl,rfl,hbel,HR⟩:=hrel;have d2':=(hbel.cell (p:=⟨w.heap.size,2,none⟩) (Zaa d2)).trans d2;have HBEL:=Hd hbel;clear hbel
    by_cases hlt:i<n
    ·
     by_cases hle:r<=q
     ·
      obtain⟨b,off,x0,x1,x2,rfl,c0,c1,c2,hx⟩:=H5.out i hlt;have hb0:=HB1.out.trans (HBEL.out.mono HB1.out.size);have e0:=(hb0.cell (p:=⟨b,off+i*3,none⟩) (Zaa c0)).trans c0;have e1:=(hb0.cell (p:=⟨b,off+i*3+1,none⟩) (Zaa c1)).trans c1;have e2:=(hb0.cell (p:=⟨b,off+i*3+2,none⟩) (Zaa c2)).trans c2;have HX:=Hd (hx.below hb0);clear c0 c1 c2 hx hb0;have hin:(i:Int)<n:=by omega
      go_wp2_with fail;refine(IH.out i _ _ (q-r) _ (by omega) (by omega) HX.out).mono ?_;rintro y w3 ⟨⟨r2,rfl,g1,g2,g3⟩,hb3⟩;have HB3:=Hd (HBEL.out.trans (hb3.mono HBEL.out.size));have HR2:Hid (r+r2<=q->r+r2=1+sumN (i+1) fun i=>(kid i).size):=Hd fun hh=>by
       have e1:=HR.out (by omega);have e2:=g3 (by omega)
       show _=1+(sumN i (fun i=>(kid i).size)+(kid i).size)
       omega
      clear hb3 g3 e0 e1 e2;go_wp2_with fail;go_roundw
      case rel=>exact⟨i+1,r+r2,by omega,by omega,by omega,by omega,by go_num,by go_num,HB3.out,HR2⟩
      case measure=>simp[intOf];omega
     ·
      have hin:(i:Int)<n:=by omega
      have HF:Hid ((∃ r':Nat,Ending.returned (.int .i64 (r:Nat))=.returned (.int .i64 r')/\1<=r'/\r'<=q+1/\(r'<=q->r'=E.size))/\Below w.heap.size w wr) :=
       Hd ⟨⟨r,rfl,hr1,hr2,fun hh=>by omega⟩,HB1.out.trans (HBEL.out.mono HB1.out.size)⟩
      go_wp2_with fail;go_ret;exact HF.out
    ·
     have he:i=n:=by omega
     have HF:Hid ((∃ r':Nat,Ending.returned (.int .i64 (r:Nat))=.returned (.int .i64 r')/\1<=r'/\r'<=q+1/\(r'<=q->r'=E.size))/\Below w.heap.size w wr) :=
      Hd ⟨⟨r,rfl,hr1,hr2,fun hh=>by rw[HSZ.out,HR.out hh,he]⟩,HB1.out.trans (HBEL.out.mono HB1.out.size)⟩
     have hin:¬ (i:Int)<n:=by omega
     go_wp2_with fail;go_ret;exact HF.out
open Go.RowKit
theorem Zed {f:Nat->Nat} {i:Nat}:∀ {n:Nat},i<n->sumN i f+f i<=sumN n f
 | 0,h=>by omega
 | k+1,h=>by
   rcases Nat.lt_or_ge i k with h'|h'
   ·
    have:=Zed (f:=f) h'
    show _<=sumN k f+f k
    omega
   ·
    obtain rfl:i=k:=by omega
    exact Nat.le_refl _
def Zbt (op:Int):Int×Int :=
 if op=1\/op=2\/op=3 then (0,0) else if op=4 then (1,1) else if op=5\/op=6\/op=7 then (0,64) else if op=8\/op=9 then (2,2) else if op=10 then (3,3) else (-1,-1)
def okT:ExT->Nat->Prop
 | .nil,_=>False
 | .mk op v n kid,deep=>deep<=64/\0<=(Zbt op).1/\(op=3->0<=v/\v<64)/\(op≠3->v=0)/\(Zbt op).1<=n/\(n:Int)<=(Zbt op).2/\∀ i,i<n->okT (kid i) (deep+1)
def Zo8:ExT->Prop
 | .nil=>False
 | .mk op v n kid=>0<=(Zbt op).1/\(op=3->0<=v/\v<64)/\(op≠3->v=0)/\(Zbt op).1<=n/\(n:Int)<=(Zbt op).2/\∀ i,i<n->Zo8 (kid i)
theorem okT.valid:∀ {e:ExT} {deep:Nat},okT e deep->Zo8 e
 | .nil,_,h=>h.elim
 | .mk op v n kid,deep,h=>by
   obtain⟨_,h1,h2,h3,h4,h5,h6⟩:=h;exact⟨h1,h2,h3,h4,h5,fun i hi=>(h6 i hi).valid⟩
theorem Zln (op:Int) (w:World):Calls Tryz.prog 183 #[.int .i64 op] w fun y w'=>y=.returned (.tuple #[.int .i64 (Zbt op).1,.int .i64 (Zbt op).2])/\w=w':=by
 obtain⟨p,hp⟩:∃ p,p=Zbt op:=⟨_,rfl⟩;rw[<- hp];unfold Zbt at hp;rcases(by omega:op=1\/op=2\/op=3\/op=4\/op=5\/op=6\/op=7\/op=8\/op=9\/op=10\/(op<1\/10<op)) with rfl|rfl|rfl|rfl|rfl|rfl|rfl|rfl|rfl|rfl|h
 all_goals
  first
  | (simp at hp
     subst hp
     go_enter Tryz.func183,Tryz.ntmps183
     go_wp2_with fail
     go_ret2
     exact⟨rfl,rfl⟩)
  | (have h1 : (op == 1) = false := by simp; omega
     have h2:(op == 2)=false:=by simp;omega
     have h3:(op == 3)=false:=by simp;omega
     have h4:(op == 4)=false:=by simp;omega
     have h5:(op == 5)=false:=by simp;omega
     have h6:(op == 6)=false:=by simp;omega
     have h7:(op == 7)=false:=by simp;omega
     have h8:(op == 8)=false:=by simp;omega
     have h9:(op == 9)=false:=by simp;omega
     have h10:(op == 10)=false:=by simp;omega
     rw[if_neg (by omega),if_neg (by omega),if_neg (by omega),if_neg (by omega),if_neg (by omega)] at hp;subst hp;clear h
     go_enter Tryz.func183,Tryz.ntmps183
     go_wp2_with fail
     go_ret2
     exact⟨rfl,rfl⟩)
def Ze5 (e:ExT) (deep parts:Nat) (w:World) (y:Ending) (w':World):Prop:=∃ err m:Int,y=.returned (.tuple #[.int .i64 err,.int .i64 m])/\okI m/\(err=0↔okT e deep)/\(err=0->m=(parts+e.size:Nat))/\Below w.heap.size w w'
theorem Znl:∀ (e:ExT) (x:Value) (deep parts:Nat) (w:World),deep<=65->parts+e.size<=4096->Zaq w e x ->
 Calls Tryz.prog 125 #[x,.int .i64 deep,.int .i64 parts] w (Ze5 e deep parts w)
 | .nil,x,deep,parts,w,hd,hp,h=>by unfold Zaq at h;exact h.elim
 | .mk op v n kid,x,deep,parts,w,hd,hp,h=>by
   unfold Zaq at h;obtain⟨a,c,rfl,h2,h3,h4,h5⟩:=h;have H5:=Hd h5;have HSZ:Hid ((ExT.mk op v n kid).size=1+sumN n fun i=>(kid i).size):=Hd rfl;have HKS:Hid (∀ i,i<n->(kid i).size<(ExT.mk op v n kid).size):=Hd fun i hi=>ExT.kid_size hi
   have HV:Hid (∀ l hh:Int,l=(Zbt op).1->hh=(Zbt op).2->(okT (ExT.mk op v n kid) deep↔deep<=64/\0<=l/\(op=3->0<=v/\v<64)/\(op≠3->v=0)/\l<=n/\(n:Int)<=hh/\∀ i,i<n->okT (kid i) (deep+1))):=by
    refine Hd ?_;rintro l hh rfl rfl;exact Iff.rfl
   have IH:Hid (∀ (i:Nat) (x:Value) (z1 z2:Int) (deep parts:Nat) (W:World),z1=(deep:Int)->z2=(parts:Int)->deep<=65->parts+(kid i).size<=4096->Zaq W (kid i) x->Calls Tryz.prog 125 #[x,.int .i64 z1,.int .i64 z2] W (Ze5 (kid i) deep parts W)) :=
    Hd fun i x z1 z2 deep parts W e1 e2 h1 h2 h3=>by subst e1;subst e2;exact Znl (kid i) x deep parts W h1 h2 h3
   have HK:=Hd (fun W=>Zln op W);obtain⟨E,hE⟩:∃ E,E=ExT.mk op v n kid:=⟨_,rfl⟩;have hpos:1<=E.size:=E.size_pos;rw[<- hE] at HSZ hp HV HKS ⊢;obtain⟨l,hl⟩:∃ l,l=(Zbt op).1:=⟨_,rfl⟩;obtain⟨hi,hhi⟩:∃ hi,hi=(Zbt op).2:=⟨_,rfl⟩;rw[<- hl,<- hhi] at HK;have HVV:=Hd (HV.out l hi hl hhi);obtain⟨w1,hw1⟩:∃ w1,w1=w.alloc (.cells #[.int .i64 op,.int .i64 v,.slice a n c] 86):=⟨_,rfl⟩;have HW1:Hid (_=w1):=Hd hw1.symm;have HB1:Hid (Below w.heap.size w w1):=by rw[hw1];exact Hd (Zad _ _)
   have hblk:w1.heap[w.heap.size]?=some (.cells #[.int .i64 op,.int .i64 v,.slice a n c] 86 (0,0)):=by rw[hw1];exact heap_alloc_new _ _
   have hs1:w1.heap.size=w.heap.size+1:=by rw[hw1];simp
   have d0:w1.cell? ⟨w.heap.size,0,none⟩=some (.int .i64 op):=by rw[cell_of_row _ _ 0 _ _ _ hblk];rfl
   have d1:w1.cell? ⟨w.heap.size,1,none⟩=some (.int .i64 v):=by rw[cell_of_row _ _ 1 _ _ _ hblk];rfl
   have d2:w1.cell? ⟨w.heap.size,2,none⟩=some (.slice a n c):=by rw[cell_of_row _ _ 2 _ _ _ hblk];rfl
   have HERR:Hid (∀ (k m:Int) (W:World),k≠0->¬ okT E deep->okI m->Below w1.heap.size w1 W->Ze5 E deep parts w (.returned (.tuple #[.int .i64 k,.int .i64 m])) W) :=
    Hd fun k m W hk hno hm hb=>⟨k,m,rfl,hm,⟨fun e=>(hk e).elim,fun e=>(hno e).elim⟩,fun e=>(hk e).elim,HB1.out.trans (hb.mono HB1.out.size)⟩
   unfold okI at h2 h3;clear h5 hE hw1 hblk HV hl hhi
   go_enter Tryz.func125,Tryz.ntmps125
   go_upto_region 1 with fail;rw[HW1.out]
   by_cases hdp:(deep:Int)>64
   ·
    go_wp2_with fail
    go_ret2
    exact HERR.out 17 _ _ (by decide) (fun h=>by have:=(HVV.out.1 h).1;omega) (by unfold okI;omega) (Below.refl _ _)
   go_wp2_with fail;refine(HK.out _).mono ?_;rintro y w' ⟨rfl,rfl⟩
   by_cases hl0:l<0
   ·
    go_wp2_with fail
    go_ret2
    exact HERR.out 11 _ _ (by decide) (fun h=>by have:=(HVV.out.1 h).2.1;omega) (by unfold okI;omega) (Below.refl _ _)
   have hgood:((op == 3)=true/\op=3)\/((op == 3)=false/\(op != 3)=true/\op≠3):=by
    by_cases e:op=3
    ·
     exact .inl ⟨by simp[e],e⟩
    ·
     exact .inr ⟨by simpa using e,by simpa using e,e⟩
   rcases hgood with ⟨g1,g2⟩|⟨g1,g2,g3⟩
   ·
    subst g2
    by_cases hv0:v<0
    ·
     go_wp2_with fail
     go_ret2
     exact HERR.out 9 _ _ (by decide) (fun h=>by have:=(HVV.out.1 h).2.2.1 (by trivial);omega) (by unfold okI;omega) (Below.refl _ _)
    by_cases hv1:v>=64
    ·
     go_wp2_with fail
     go_ret2
     exact HERR.out 9 _ _ (by decide) (fun h=>by have:=(HVV.out.1 h).2.2.1 (by trivial);omega) (by unfold okI;omega) (Below.refl _ _)
    have HG:Hid ((3:Int)=3->0<=v/\v<64):=Hd fun _=>⟨by omega,by omega⟩
    have HG2:Hid ((3:Int)≠3->v=0):=Hd fun e=>(e rfl).elim
    go_upto_region 9 with fail
    by_cases hnl:(n:Int)<l
    ·
     go_wp2_with fail
     go_ret2
     exact HERR.out 3 _ _ (by decide) (fun h=>by have:=(HVV.out.1 h).2.2.2.2.1;omega) (by unfold okI;omega) (Below.refl _ _)
    by_cases hnh:(n:Int)>hi
    ·
     go_wp2_with fail
     go_ret2
     exact HERR.out 3 _ _ (by decide) (fun h=>by have:=(HVV.out.1 h).2.2.2.2.2.1;omega) (by unfold okI;omega) (Below.refl _ _)
    go_wp2_with fail
    go_loopw [2,10,11,12] (fun s2 s10 s11 s12 wr=>∃ i p:Nat,i<=n/\p<=4096/\s2=.int .i64 p/\s10=.int .i64 i/\Below w1.heap.size w1 wr/\Hid (p=parts+(1+sumN i fun i=>(kid i).size))/\Hid (∀ j,j<i->okT (kid j) (deep+1))) (fun _ s10 _ _ _=>n-(intOf s10).toNat)
    case atStart=>exact⟨0,parts+1,by omega,by omega,by go_num,rfl,Below.refl _ _,Hd rfl,Hd fun j hj=>by omega⟩
    case round =>
     obtain⟨i,p,hin,hp4,rfl,rfl,hbel,HP,HVAL⟩:=hrel;have d2':=(hbel.cell (p:=⟨w.heap.size,2,none⟩) (Zaa d2)).trans d2;have HBEL:=Hd hbel;clear hbel
     by_cases hlt:i<n
     ·
      obtain⟨b,off,x0,x1,x2,rfl,c0,c1,c2,hx⟩:=H5.out i hlt;have hb0:=HB1.out.trans (HBEL.out.mono HB1.out.size);have e0:=(hb0.cell (p:=⟨b,off+i*3,none⟩) (Zaa c0)).trans c0;have e1:=(hb0.cell (p:=⟨b,off+i*3+1,none⟩) (Zaa c1)).trans c1;have e2:=(hb0.cell (p:=⟨b,off+i*3+2,none⟩) (Zaa c2)).trans c2;have HX:=Hd (hx.below hb0);have hsum:p+(kid i).size<=4096:=by
       have s1:(kid i).size+sumN i (fun i=>(kid i).size)<=sumN n fun i=>(kid i).size:=by
        have:=Zed (f:=fun i=>(kid i).size) hlt;omega
       have s2:=HP.out;have s3:=HSZ.out;omega
      have HSUM:Hid (p+(kid i).size=parts+(1+sumN (i+1) fun i=>(kid i).size)):=Hd (by
       have s2:=HP.out
       show _=parts+(1+(sumN i (fun i=>(kid i).size)+(kid i).size))
       omega)
      have hiz:(i:Int)<n:=by omega
      clear c0 c1 c2 hx hb0;go_wp2_with fail;refine(IH.out i _ _ _ (deep+1) p _ (by go_num) rfl (by omega) hsum HX.out).mono ?_;rintro y w3 ⟨err,m,rfl,hm,hiff,hvv,hb3⟩;have HB3:=Hd (HBEL.out.trans (hb3.mono HBEL.out.size));have HVN:=Hd hvv;have HIF:=Hd hiff;clear hb3 hvv hiff e0 e1 e2;unfold okI at hm
      by_cases he0:err=0
      ·
       subst he0;have q1:=HIF.out.1 rfl;have q2:=HVN.out rfl;obtain⟨p2,hp2⟩:∃ p2,p2=p+(kid i).size:=⟨_,rfl⟩;have HVAL2:Hid (∀ j,j<i+1->okT (kid j) (deep+1)):=Hd fun j hj=>by
        rcases Nat.lt_or_ge j i with h|h
        ·
         exact HVAL.out j h
        ·
         obtain rfl:j=i:=by omega
         exact q1
       rw[<- hp2] at q2 hsum HSUM;subst q2;clear hp2 q1 HVN HIF;go_wp2_with fail;go_roundw
       case rel=>exact⟨i+1,p2,by omega,by omega,rfl,by go_num,HB3.out,HSUM,HVAL2⟩
       case measure=>simp[intOf];omega
      ·
       have hne:(err != 0)=true:=by simpa using he0
       have HF:=Hd (HERR.out err m w3 he0 (fun h=>he0 (HIF.out.2 ((HVV.out.1 h).2.2.2.2.2.2 i hlt))) hm HB3.out);clear he0 HVN HIF;go_wp2_with fail
       go_ret2
       exact HF.out
     ·
      have he:i=n:=by omega
      have hiz:¬ (i:Int)<n:=by omega
      have HF:Hid (Ze5 E deep parts w (.returned (.tuple #[.int .i64 0,.int .i64 (p:Nat)])) wr):=Hd ⟨0,p,rfl,by unfold okI;omega,⟨fun _=>HVV.out.2 ⟨by omega,by omega,HG.out,HG2.out,by omega,by omega,fun j hj=>HVAL.out j (by omega)⟩,fun _=>rfl⟩,fun _=>by rw[HP.out,HSZ.out,he],HB1.out.trans (HBEL.out.mono HB1.out.size)⟩;go_wp2_with fail
      go_ret2
      exact HF.out
   ·
    by_cases hv0:v=0
    ·
     have hv1:(v != 0)=false:=by simp[hv0]
     have HG:Hid (op=3->0<=v/\v<64):=Hd fun e=>(g3 e).elim
     have HG2:Hid (op≠3->v=0):=Hd fun _=>hv0
     clear hv0 g3;go_upto_region 9 with fail
     by_cases hnl:(n:Int)<l
     ·
      go_wp2_with fail
      go_ret2
      exact HERR.out 3 _ _ (by decide) (fun h=>by have:=(HVV.out.1 h).2.2.2.2.1;omega) (by unfold okI;omega) (Below.refl _ _)
     by_cases hnh:(n:Int)>hi
     ·
      go_wp2_with fail
      go_ret2
      exact HERR.out 3 _ _ (by decide) (fun h=>by have:=(HVV.out.1 h).2.2.2.2.2.1;omega) (by unfold okI;omega) (Below.refl _ _)
     go_wp2_with fail
     go_loopw [2,10,11,12] (fun s2 s10 s11 s12 wr=>∃ i p:Nat,i<=n/\p<=4096/\s2=.int .i64 p/\s10=.int .i64 i/\Below w1.heap.size w1 wr/\Hid (p=parts+(1+sumN i fun i=>(kid i).size))/\Hid (∀ j,j<i->okT (kid j) (deep+1))) (fun _ s10 _ _ _=>n-(intOf s10).toNat)
     case atStart=>exact⟨0,parts+1,by omega,by omega,by go_num,rfl,Below.refl _ _,Hd rfl,Hd fun j hj=>by omega⟩
     case round =>
      obtain⟨i,p,hin,hp4,rfl,rfl,hbel,HP,HVAL⟩:=hrel;have d2':=(hbel.cell (p:=⟨w.heap.size,2,none⟩) (Zaa d2)).trans d2;have HBEL:=Hd hbel;clear hbel
      by_cases hlt:i<n
      ·
       obtain⟨b,off,x0,x1,x2,rfl,c0,c1,c2,hx⟩:=H5.out i hlt;have hb0:=HB1.out.trans (HBEL.out.mono HB1.out.size);have e0:=(hb0.cell (p:=⟨b,off+i*3,none⟩) (Zaa c0)).trans c0;have e1:=(hb0.cell (p:=⟨b,off+i*3+1,none⟩) (Zaa c1)).trans c1;have e2:=(hb0.cell (p:=⟨b,off+i*3+2,none⟩) (Zaa c2)).trans c2;have HX:=Hd (hx.below hb0);have hsum:p+(kid i).size<=4096:=by
        have s1:(kid i).size+sumN i (fun i=>(kid i).size)<=sumN n fun i=>(kid i).size:=by
         have:=Zed (f:=fun i=>(kid i).size) hlt;omega
        have s2:=HP.out;have s3:=HSZ.out;omega
       have HSUM:Hid (p+(kid i).size=parts+(1+sumN (i+1) fun i=>(kid i).size)):=Hd (by
        have s2:=HP.out
        show _=parts+(1+(sumN i (fun i=>(kid i).size)+(kid i).size))
        omega)
       have hiz:(i:Int)<n:=by omega
       clear c0 c1 c2 hx hb0;go_wp2_with fail;refine(IH.out i _ _ _ (deep+1) p _ (by go_num) rfl (by omega) hsum HX.out).mono ?_;rintro y w3 ⟨err,m,rfl,hm,hiff,hvv,hb3⟩;have HB3:=Hd (HBEL.out.trans (hb3.mono HBEL.out.size));have HVN:=Hd hvv;have HIF:=Hd hiff;clear hb3 hvv hiff e0 e1 e2;unfold okI at hm
       by_cases he0:err=0
       ·
        subst he0;have q1:=HIF.out.1 rfl;have q2:=HVN.out rfl;obtain⟨p2,hp2⟩:∃ p2,p2=p+(kid i).size:=⟨_,rfl⟩;have HVAL2:Hid (∀ j,j<i+1->okT (kid j) (deep+1)):=Hd fun j hj=>by
         rcases Nat.lt_or_ge j i with h|h
         ·
          exact HVAL.out j h
         ·
          obtain rfl:j=i:=by omega
          exact q1
        rw[<- hp2] at q2 hsum HSUM;subst q2;clear hp2 q1 HVN HIF;go_wp2_with fail;go_roundw
        case rel=>exact⟨i+1,p2,by omega,by omega,rfl,by go_num,HB3.out,HSUM,HVAL2⟩
        case measure=>simp[intOf];omega
       ·
        have hne:(err != 0)=true:=by simpa using he0
        have HF:=Hd (HERR.out err m w3 he0 (fun h=>he0 (HIF.out.2 ((HVV.out.1 h).2.2.2.2.2.2 i hlt))) hm HB3.out);clear he0 HVN HIF;go_wp2_with fail
        go_ret2
        exact HF.out
      ·
       have he:i=n:=by omega
       have hiz:¬ (i:Int)<n:=by omega
       have HF:Hid (Ze5 E deep parts w (.returned (.tuple #[.int .i64 0,.int .i64 (p:Nat)])) wr):=Hd ⟨0,p,rfl,by unfold okI;omega,⟨fun _=>HVV.out.2 ⟨by omega,by omega,HG.out,HG2.out,by omega,by omega,fun j hj=>HVAL.out j (by omega)⟩,fun _=>rfl⟩,fun _=>by rw[HP.out,HSZ.out,he],HB1.out.trans (HBEL.out.mono HB1.out.size)⟩;go_wp2_with fail
       go_ret2
       exact HF.out
    ·
     have hv1:(v != 0)=true:=by simpa using hv0
     have HNO:Hid (¬ okT E deep):=Hd fun h=>hv0 ((HVV.out.1 h).2.2.2.1 g3)
     clear hv0 g3;go_wp2_with fail
     go_ret2
     exact HERR.out 9 _ _ (by decide) HNO.out (by unfold okI;omega) (Below.refl _ _)
open Go.RowKit
theorem Zhc (e:ExT) (x:Value) (w:World) (hs:e.size<=4096) (h:Zaq w e x) :
 Calls Tryz.prog 56 #[x] w fun y w'=>∃ err:Int,y=.returned (.int .i64 err)/\(err=0↔okT e 1)/\Below w.heap.size w w':=by
 have HC:Hid (∀ W,Below w.heap.size w W->∀ u,u=x->Calls Tryz.prog 125 #[u,.int .i64 1,.int .i64 0] W (Ze5 e 1 0 W)):=Hd fun W hb u hu=>by subst hu;exact Znl e _ 1 0 W (by omega) (by omega) (h.below hb)
 obtain⟨x0,x1,x2,hx⟩:∃ x0 x1 x2,x=.agg #[x0,x1,x2]:=by
  cases e with
  | nil=>unfold Zaq at h;exact h.elim
  | mk op v n kid =>
    unfold Zaq at h;obtain⟨a,c,rfl,_⟩:=h;exact⟨_,_,_,rfl⟩
 subst hx;obtain⟨w1,hw1⟩:∃ w1,w1=w.alloc (.cells #[x0,x1,x2] 86):=⟨_,rfl⟩;have HW1:Hid (_=w1):=Hd hw1.symm;have HB1:Hid (Below w.heap.size w w1):=by rw[hw1];exact Hd (Zad _ _)
 have hblk:w1.heap[w.heap.size]?=some (.cells #[x0,x1,x2] 86 (0,0)):=by rw[hw1];exact heap_alloc_new _ _
 have d0:w1.cell? ⟨w.heap.size,0,none⟩=some x0:=by rw[cell_of_row _ _ 0 _ _ _ hblk];rfl
 have d1:w1.cell? ⟨w.heap.size,1,none⟩=some x1:=by rw[cell_of_row _ _ 1 _ _ _ hblk];rfl
 have d2:w1.cell? ⟨w.heap.size,2,none⟩=some x2:=by rw[cell_of_row _ _ 2 _ _ _ hblk];rfl
 have hone:x0.cells=#[x0]/\x1.cells=#[x1]/\x2.cells=#[x2]:=by
  cases e with
  | nil=>unfold Zaq at h;exact h.elim
  | mk op v n kid =>
    unfold Zaq at h;obtain⟨a,c,h1,_⟩:=h;cases h1;exact⟨rfl,rfl,rfl⟩
 obtain⟨o0,o1,o2⟩:=hone;clear h hw1 hblk
 go_enter Tryz.func56,Tryz.ntmps56
 go_upto_region 1 with fail;rw[HW1.out];go_wp2_with fail;refine(HC.out _ HB1.out _ rfl).mono ?_;rintro y w2 ⟨err,m,rfl,hm,hv,_,hb⟩;have HF:Hid (∃ err':Int,Ending.returned (.int .i64 err)=.returned (.int .i64 err')/\(err'=0↔okT e 1)/\Below w.heap.size w w2):=Hd ⟨err,rfl,hv,HB1.out.trans (hb.mono HB1.out.size)⟩;clear hv hb;go_wp2_with fail;go_ret;exact HF.out
def Zd1:Nat->(Nat->List Int)->List Int
 | 0,_=>[]
 | k+1,f=>Zd1 k f++f k
def Zbe:ExT->List Int
 | .nil=>[]
 | .mk op v n kid=>(if op=3 then [v] else [])++Zd1 n fun i=>Zbe (kid i)
theorem Zhx {f:Nat->List Int} {g:Nat->Nat}:∀ (n:Nat),(∀ i,i<n->(f i).length<=g i)->(Zd1 n f).length<=sumN n g
 | 0,_=>Nat.le_refl _
 | k+1,h=>by
   show (Zd1 k f++f k).length<=sumN k g+g k
   rw[List.length_append];have:=Zhx (f:=f) (g:=g) k (fun i hi=>h i (by omega));have:=h k (by omega);omega
theorem Zeq:∀ e:ExT,(Zbe e).length<=e.size
 | .nil=>by simp[Zbe]
 | .mk op v n kid=>by
   show ((if op=3 then [v] else [])++Zd1 n fun i=>Zbe (kid i)).length<=1+sumN n fun i=>(kid i).size
   rw[List.length_append];have h1:=Zhx (f:=fun i=>Zbe (kid i)) (g:=fun i=>(kid i).size) n (fun i _=>Zeq (kid i));have h2:(if op=3 then [v] else []:List Int).length<=1:=by split<;>simp
   omega
theorem OwnI.lower {w:World} {base b:Nat} {v:Value} {zs:List Int} (h:OwnI w base v zs) (hb:b<=base):OwnI w b v zs:=by
 refine⟨h.1,?_⟩;rcases h.2 with hn|⟨g,cap,cur,rfl,hb',rest⟩
 ·
  exact .inl hn
 ·
  exact .inr ⟨g,cap,cur,rfl,by omega,rest⟩
theorem Zly:∀ (e:ExT) (x:Value) (w:World),e.size<=4096->Zaq w e x ->
 Calls Tryz.prog 127 #[x] w fun y w'=>∃ u,y=.returned u/\OwnI w' w.heap.size u (Zbe e)/\Below w.heap.size w w'
 | .nil,x,w,hp,h=>by unfold Zaq at h;exact h.elim
 | .mk op v n kid,x,w,hp,h=>by
   unfold Zaq at h;obtain⟨a,c,rfl,h2,h3,h4,h5⟩:=h;have H5:=Hd h5;have HSZ:Hid ((ExT.mk op v n kid).size=1+sumN n fun i=>(kid i).size):=Hd rfl;have HKS:Hid (∀ i,i<n->(kid i).size<(ExT.mk op v n kid).size):=Hd fun i hi=>ExT.kid_size hi
   have HVT:Hid (Zbe (ExT.mk op v n kid)=(if op=3 then [v] else [])++Zd1 n fun i=>Zbe (kid i)):=Hd rfl;have IH:Hid (∀ (i:Nat) (x:Value) (W:World),(kid i).size<=4096->Zaq W (kid i) x->Calls Tryz.prog 127 #[x] W fun y w'=>∃ u,y=.returned u/\OwnI w' W.heap.size u (Zbe (kid i))/\Below W.heap.size W w') :=
    Hd fun i x W h1 h2=>Zly (kid i) x W h1 h2
   obtain⟨E,hE⟩:∃ E,E=ExT.mk op v n kid:=⟨_,rfl⟩;rw[<- hE] at HSZ hp HVT HKS ⊢;obtain⟨w1,hw1⟩:∃ w1,w1=w.alloc (.cells #[.int .i64 op,.int .i64 v,.slice a n c] 86):=⟨_,rfl⟩;have HW1:Hid (_=w1):=Hd hw1.symm;have HB1:Hid (Below w.heap.size w w1):=by rw[hw1];exact Hd (Zad _ _)
   have hblk:w1.heap[w.heap.size]?=some (.cells #[.int .i64 op,.int .i64 v,.slice a n c] 86 (0,0)):=by rw[hw1];exact heap_alloc_new _ _
   have hs1:w1.heap.size=w.heap.size+1:=by rw[hw1];simp
   have d0:w1.cell? ⟨w.heap.size,0,none⟩=some (.int .i64 op):=by rw[cell_of_row _ _ 0 _ _ _ hblk];rfl
   have d1:w1.cell? ⟨w.heap.size,1,none⟩=some (.int .i64 v):=by rw[cell_of_row _ _ 1 _ _ _ hblk];rfl
   have d2:w1.cell? ⟨w.heap.size,2,none⟩=some (.slice a n c):=by rw[cell_of_row _ _ 2 _ _ _ hblk];rfl
   unfold okI at h2 h3;obtain⟨w2,hw2⟩:∃ w2,w2=w1.alloc (.cells #[] 3):=⟨_,rfl⟩;have HW2:Hid (_=w2):=Hd hw2.symm;have HB2:Hid (Below w1.heap.size w1 w2):=by rw[hw2];exact Hd (Zad _ _)
   have HOWN:Hid (OwnI w2 w1.heap.size (.slice (some ⟨w.heap.size+1,0,none⟩) 0 0) []):=by rw[hw2,<- hs1];exact Hd (Zjp _ _ (Nat.le_refl _))
   clear h5 hE hw1 hw2 hblk
   go_enter Tryz.func127,Tryz.ntmps127
   go_upto_region 1 with fail;rw[HW1.out];go_upto_region 2 with fail;obtain⟨Z,hZ⟩:∃ Z:List Int,Z=if op=3 then [v] else []:=⟨_,rfl⟩
   have HZ:=Hd hZ;have HZ1:Hid (Z.length<=1):=Hd (by rw[hZ];split<;>simp);rw[HW2.out];have hs2:w1.heap.size<=w2.heap.size:=HB2.out.size;have d0':=(HB2.out.cell (p:=⟨w.heap.size,0,none⟩) (Zaa d0)).trans d0;have d1':=(HB2.out.cell (p:=⟨w.heap.size,1,none⟩) (Zaa d1)).trans d1
   by_cases h3:op=3
   ·
    rw[if_pos h3] at hZ;subst h3;clear h2;go_wp2_with (at_builtin;refine Zcw _ rfl _ _ rfl w1.heap.size w1 _ [] _ rfl rfl rfl rfl (by exact HOWN.out) (by simp) hs2 HB2.out ?_;intro v3 w3 hown3 hb3 hs3 _)
    go_loopw [3,4] (fun s3 s4 wr=>∃ i:Nat,i<=n/\s4=.int .i64 i/\Below w1.heap.size w1 wr/\OwnI wr w1.heap.size s3 (Z++Zd1 i fun i=>Zbe (kid i))/\w1.heap.size<=wr.heap.size) (fun _ s4 _=>n-(intOf s4).toNat)
    case atStart=>exact⟨0,Nat.zero_le _,rfl,hb3,by rw[hZ];simpa [Zd1] using hown3,hs3⟩
    case round =>
     obtain⟨i,hin,rfl,hbel,hown,hsz⟩:=hrel;have d2':=(hbel.cell (p:=⟨w.heap.size,2,none⟩) (Zaa d2)).trans d2;have HBEL:=Hd hbel;have HOW:=Hd hown;clear hbel hown
     by_cases hlt:i<n
     ·
      obtain⟨b,off,x0,x1,x2,rfl,c0,c1,c2,hx⟩:=H5.out i hlt;have hb0:=HB1.out.trans (HBEL.out.mono HB1.out.size);have e0:=(hb0.cell (p:=⟨b,off+i*3,none⟩) (Zaa c0)).trans c0;have e1:=(hb0.cell (p:=⟨b,off+i*3+1,none⟩) (Zaa c1)).trans c1;have e2:=(hb0.cell (p:=⟨b,off+i*3+2,none⟩) (Zaa c2)).trans c2;have HX:=Hd (hx.below hb0);have hiz:(i:Int)<n:=by omega
      have hk1:=HKS.out i hlt
      have HLN:Hid ((Z++Zd1 i fun i=>Zbe (kid i)).length+(Zbe (kid i)).length<=4096):=Hd (by
       have s1:=Zed (f:=fun i=>(kid i).size) hlt;have s2:=HSZ.out;have s3:=Zhx (f:=fun i=>Zbe (kid i)) (g:=fun i=>(kid i).size) i (fun i _=>Zeq (kid i));have s4:=Zeq (kid i);have s5:=HZ1.out;rw[List.length_append];omega)
      clear c0 c1 c2 hx hb0;go_upto_region 7 with fail
      go_wp2_with (first
       | (go_at_call 127;refine(IH.out i _ _ (by omega) HX.out).mono ?_;rintro y w3 ⟨u,rfl,hu,hb3⟩;obtain⟨au,cu,rfl,hua,hun⟩:=hu.sliceIs (by have:=HLN.out;omega);have HU:=Hd hua;have HB3:=Hd hb3;clear hu hua hb3)
       | (at_builtin;refine Zfv rfl _ _ rfl w1.heap.size w1 _ (Z++Zd1 i fun i=>Zbe (kid i)) (Zbe (kid i)) au cu rfl rfl (by exact HOW.out.below HB3.out) (by exact HU.out) (by have:=HLN.out;omega) (by have:=HB3.out.size;omega) (by exact HBEL.out.trans (HB3.out.mono HBEL.out.size)) hun ?_;intro v4 w4 hown4 hb4 hs4 _))
      go_roundw
      case rel=>exact⟨i+1,by omega,by go_num,hb4,by rw[List.append_assoc] at hown4;exact hown4,hs4⟩
      case measure=>simp[intOf];omega
     ·
      have he:i=n:=by omega
      have hiz:¬ (i:Int)<n:=by omega
      have HF:Hid (∃ u,Ending.returned u3=.returned u/\OwnI wr w.heap.size u (Zbe E)/\Below w.heap.size w wr):=Hd ⟨u3,rfl,by rw[HVT.out,<- HZ.out,<- he];exact HOW.out.lower (by omega),HB1.out.trans (HBEL.out.mono HB1.out.size)⟩;go_wp2_with fail;go_ret;exact HF.out
   ·
    rw[if_neg h3] at hZ;have g3:(op == 3)=false:=by simpa using h3
    clear h3;go_wp2_with fail
    go_loopw [3,4] (fun s3 s4 wr=>∃ i:Nat,i<=n/\s4=.int .i64 i/\Below w1.heap.size w1 wr/\OwnI wr w1.heap.size s3 (Z++Zd1 i fun i=>Zbe (kid i))/\w1.heap.size<=wr.heap.size) (fun _ s4 _=>n-(intOf s4).toNat)
    case atStart=>exact⟨0,Nat.zero_le _,rfl,HB2.out,by rw[hZ];simpa [Zd1] using HOWN.out,hs2⟩
    case round =>
     obtain⟨i,hin,rfl,hbel,hown,hsz⟩:=hrel;have d2':=(hbel.cell (p:=⟨w.heap.size,2,none⟩) (Zaa d2)).trans d2;have HBEL:=Hd hbel;have HOW:=Hd hown;clear hbel hown
     by_cases hlt:i<n
     ·
      obtain⟨b,off,x0,x1,x2,rfl,c0,c1,c2,hx⟩:=H5.out i hlt;have hb0:=HB1.out.trans (HBEL.out.mono HB1.out.size);have e0:=(hb0.cell (p:=⟨b,off+i*3,none⟩) (Zaa c0)).trans c0;have e1:=(hb0.cell (p:=⟨b,off+i*3+1,none⟩) (Zaa c1)).trans c1;have e2:=(hb0.cell (p:=⟨b,off+i*3+2,none⟩) (Zaa c2)).trans c2;have HX:=Hd (hx.below hb0);have hiz:(i:Int)<n:=by omega
      have hk1:=HKS.out i hlt
      have HLN:Hid ((Z++Zd1 i fun i=>Zbe (kid i)).length+(Zbe (kid i)).length<=4096):=Hd (by
       have s1:=Zed (f:=fun i=>(kid i).size) hlt;have s2:=HSZ.out;have s3:=Zhx (f:=fun i=>Zbe (kid i)) (g:=fun i=>(kid i).size) i (fun i _=>Zeq (kid i));have s4:=Zeq (kid i);have s5:=HZ1.out;rw[List.length_append];omega)
      clear c0 c1 c2 hx hb0;go_upto_region 7 with fail
      go_wp2_with (first
       | (go_at_call 127;refine(IH.out i _ _ (by omega) HX.out).mono ?_;rintro y w3 ⟨u,rfl,hu,hb3⟩;obtain⟨au,cu,rfl,hua,hun⟩:=hu.sliceIs (by have:=HLN.out;omega);have HU:=Hd hua;have HB3:=Hd hb3;clear hu hua hb3)
       | (at_builtin;refine Zfv rfl _ _ rfl w1.heap.size w1 _ (Z++Zd1 i fun i=>Zbe (kid i)) (Zbe (kid i)) au cu rfl rfl (by exact HOW.out.below HB3.out) (by exact HU.out) (by have:=HLN.out;omega) (by have:=HB3.out.size;omega) (by exact HBEL.out.trans (HB3.out.mono HBEL.out.size)) hun ?_;intro v4 w4 hown4 hb4 hs4 _))
      go_roundw
      case rel=>exact⟨i+1,by omega,by go_num,hb4,by rw[List.append_assoc] at hown4;exact hown4,hs4⟩
      case measure=>simp[intOf];omega
     ·
      have he:i=n:=by omega
      have hiz:¬ (i:Int)<n:=by omega
      have HF:Hid (∃ u,Ending.returned u3=.returned u/\OwnI wr w.heap.size u (Zbe E)/\Below w.heap.size w wr):=Hd ⟨u3,rfl,by rw[HVT.out,<- HZ.out,<- he];exact HOW.out.lower (by omega),HB1.out.trans (HBEL.out.mono HB1.out.size)⟩;go_wp2_with fail;go_ret;exact HF.out
open Go.RowKit
theorem Zud (a:Option Addr) (c:Nat) (zs:List Int) (v:Int) (w:World) (hl:zs.length<=1000000) (h:Za4 w a zs) :
 Calls Tryz.prog 184 #[.slice a zs.length c,.int .i64 v] w fun y w'=>y=.returned (.bool (decide (v∈zs)))/\w=w':=by
 have HI:=Hd h;clear h;have HNO:Hid ((∀ j,j<zs.length->at0 zs j≠v)->decide (v∈zs)=false):=Hd fun hh=>decide_eq_false fun hm=>by
  obtain⟨j,hj,e⟩:=List.getElem_of_mem hm;exact hh j hj (by rw[Zcb hj];exact e)
 have HYES:Hid (∀ j,j<zs.length->at0 zs j=v->decide (v∈zs)=true):=Hd fun j hj e=>decide_eq_true (by rw[Zcb hj] at e;rw[<- e];exact List.getElem_mem hj)
 go_enter Tryz.func184,Tryz.ntmps184
 go_wp2_with fail
 go_loopw [5] (fun s5 wr=>∃ i:Nat,i<=zs.length/\s5=.int .i64 i/\w=wr/\Hid (∀ j,j<i->at0 zs j≠v)) (fun s5 _=>zs.length-(intOf s5).toNat)
 case atStart=>exact⟨0,Nat.zero_le _,rfl,rfl,Hd fun j hj=>by omega⟩
 case round =>
  obtain⟨i,hi,rfl,rfl,HN⟩:=hrel
  by_cases hlt:i<zs.length
  ·
   obtain⟨b,off,rfl,hc⟩:=HI.out.cells i hlt;have hiz:(i:Int)<zs.length:=by omega
   obtain⟨z,hz⟩:∃ z,z=at0 zs i:=⟨_,rfl⟩;rw[<- hz] at hc
   by_cases he:z=v
   ·
    have HY:=Hd (HYES.out i hlt (by rw[<- hz,he]));subst he;clear hz;go_wp2_with fail;go_ret;exact⟨by rw[HY.out];rfl,rfl⟩
   ·
    have hne:(z == v)=false:=by simpa using he
    have HN2:Hid (∀ j,j<i+1->at0 zs j≠v):=Hd fun j hj=>by
     rcases Nat.lt_or_ge j i with h|h
     ·
      exact HN.out j h
     ·
      obtain rfl:j=i:=by omega
      rw[<- hz];exact he
    clear hz he;go_wp2_with fail;go_roundw
    case rel=>exact⟨i+1,by omega,by go_num,by simp,HN2⟩
    case measure=>simp[intOf];omega
  ·
   have HN2:=Hd (HNO.out fun j hj=>HN.out j (by omega));have hiz:¬ (i:Int)<zs.length:=by omega
   go_wp2_with fail;go_ret;exact⟨by rw[HN2.out];rfl,rfl⟩
structure PutS (zs:List Int) (v:Int) (i:Nat) (d:Bool) (os:List Int):Prop where
 mem:∀ x,x∈os↔x∈zs.take i\/(d=true/\x=v)
 len:os.length=i+if d then 1 else 0
 srt:os.Pairwise (· < ·)
 low:d=false->∀ x∈os,x<v
 up:d=true->∀ x∈os,∀ y∈zs.drop i,x<y
theorem Zq2 {os:List Int} {z:Int} (h:os.Pairwise (· < ·)) (hz:∀ x∈os,x<z):(os++[z]).Pairwise (· < ·) :=
 List.pairwise_append.2 ⟨h,List.pairwise_singleton ..,fun x hx y hy=>by rw[List.mem_singleton.1 hy];exact hz x hx⟩
theorem Zq1 {zs:List Int} (hs:zs.Pairwise (· < ·)) {i:Nat} (hi:i<zs.length):(∀ y∈zs.drop i,at0 zs i<=y)/\(∀ y∈zs.drop (i+1),at0 zs i<y)/\(∀ x∈zs.take i,x<at0 zs i):=by
 have e:zs.drop i=at0 zs i::zs.drop (i+1):=by rw[Zcb hi];exact(List.drop_eq_getElem_cons hi)
 have hd:(zs.drop i).Pairwise (· < ·):=hs.sublist (List.drop_sublist ..);rw[e,List.pairwise_cons] at hd;have h2:=hs;rw[<- List.take_append_drop i zs,List.pairwise_append] at h2;refine⟨fun y hy=>?_,hd.1,fun x hx=>h2.2.2 x hx _ (by rw[e];exact List.mem_cons_self ..)⟩;rw[e] at hy;rcases List.mem_cons.1 hy with h|h
 ·
  omega
 ·
  have:=hd.1 y h;omega
theorem PutS.here {zs:List Int} {v:Int} {i:Nat} {os:List Int} (h:PutS zs v i false os) (hu:∀ y∈zs.drop i,v<y):PutS zs v i true (os++[v]):=by
 refine⟨fun x=>?_,by simp[h.len],Zq2 h.srt (h.low rfl),by simp,fun _ x hx y hy=>?_⟩
 ·
  have:=h.mem x;simp only[Bool.false_eq_true,false_and,or_false] at this;simp[this]
 ·
  rcases List.mem_append.1 hx with h1|h1
  ·
   have:=h.low rfl x h1;have:=hu y hy;omega
  ·
   rw[List.mem_singleton.1 h1];exact hu y hy
theorem PutS.next {zs:List Int} {v:Int} {i:Nat} {d:Bool} {os:List Int} (h:PutS zs v i d os) (hs:zs.Pairwise (· < ·)) (hi:i<zs.length) (hd:d=false->at0 zs i<v):PutS zs v (i+1) d (os++[at0 zs i]):=by
 obtain⟨q1,q2,q3⟩:=Zq1 hs hi;have hlt:∀ x∈os,x<at0 zs i:=fun x hx=>by
  cases d with
  | true=>exact h.up rfl x hx _ (by rw[List.drop_eq_getElem_cons hi,Zcb hi];exact List.mem_cons_self ..)
  | false =>
    rcases(h.mem x).1 hx with h1|⟨h1,_⟩
    ·
     exact q3 x h1
    ·
     cases h1
 refine⟨fun x=>?_,by have:=h.len;simp[this];omega,Zq2 h.srt hlt,fun e x hx=>?_,fun e x hx y hy=>?_⟩
 ·
  rw[List.take_succ_eq_append_getElem hi,List.mem_append,List.mem_append,h.mem x,Zcb hi];simp only[List.mem_singleton];constructor
  ·
   rintro((h1|h1)|h1)
   ·
    exact .inl (.inl h1)
   ·
    exact .inr h1
   ·
    exact .inl (.inr h1)
  ·
   rintro((h1|h1)|h1)
   ·
    exact .inl (.inl h1)
   ·
    exact .inr h1
   ·
    exact .inl (.inr h1)
 ·
  rcases List.mem_append.1 hx with h1|h1
  ·
   exact h.low e x h1
  ·
   rw[List.mem_singleton.1 h1];exact hd e
 ·
  have hy':=q2 y hy;rcases List.mem_append.1 hx with h1|h1
  ·
   have:=hlt x h1;omega
  ·
   rw[List.mem_singleton.1 h1];exact hy'
theorem Zvc (a:Option Addr) (c:Nat) (zs:List Int) (v:Int) (w:World) (hl:zs.length<=1000000) (h:Za4 w a zs) (hsr:zs.Pairwise (· < ·)) (hnm:v∉zs) :
 Calls Tryz.prog 185 #[.slice a zs.length c,.int .i64 v] w fun y w'=>∃ u os,y=.returned u/\OwnI w' w.heap.size u os/\((∀ x,x∈os↔x∈zs\/x=v)/\os.Pairwise (· < ·))/\os.length=zs.length+1/\Below w.heap.size w w':=by
 have HI:=Hd h;have HSR:=Hd hsr;have HNM:Hid (∀ i,i<zs.length->at0 zs i≠v):=Hd fun i hi e=>hnm (by rw[<- e,Zcb hi];exact List.getElem_mem hi)
 clear h hsr hnm;have HFIN:Hid (∀ os,PutS zs v zs.length true os->((∀ x,x∈os↔x∈zs\/x=v)/\os.Pairwise (· < ·))/\os.length=zs.length+1):=Hd fun os h=>⟨⟨fun x=>by have:=h.mem x;rw[List.take_length] at this;simpa using this,h.srt⟩,by simpa using h.len⟩
 go_enter Tryz.func185,Tryz.ntmps185
 go_wp2_with fail
 go_loopw [5,6,7] (fun s5 s6 s7 wr=>∃ (i:Nat) (d:Bool) (os:List Int),i<=zs.length/\s6=.bool d/\s7=.int .i64 i/\OwnI wr w.heap.size s5 os/\w.heap.size<=wr.heap.size/\Below w.heap.size w wr/\Hid (PutS zs v i d os)) (fun _ _ s7 _=>zs.length-(intOf s7).toNat)
 case atStart=>exact⟨0,false,[],Nat.zero_le _,rfl,rfl,Zjp w _ (Nat.le_refl _),by simp,Zad w _,Hd ⟨fun x=>by simp,by simp,List.Pairwise.nil,by simp,by simp⟩⟩
 case round =>
  obtain⟨i,d,os,hi,rfl,rfl,hown,hsz,hbel,HP⟩:=hrel;have hol:os.length<=i+1:=by rw[HP.out.len];split<;>omega
  by_cases hlt:i<zs.length
  ·
   obtain⟨b,off,rfl,hc⟩:=(HI.out.below hbel).cells i hlt;have HOW:=Hd hown;have HBEL:=Hd hbel;have hiz:(i:Int)<zs.length:=by omega
   obtain⟨z,hz⟩:∃ z,z=at0 zs i:=⟨_,rfl⟩;rw[<- hz] at hc;have HZ:=Hd hz;clear hown hbel hz;cases d with
   | true =>
     go_wp2_with (at_builtin;refine Zcw _ rfl _ _ rfl w.heap.size w _ os _ rfl rfl rfl rfl (by exact HOW.out) (by omega) hsz HBEL.out ?_;intro v1 w1 hown1 hbel1 hsz1 _);go_roundw
     case rel=>exact⟨i+1,true,_,by omega,rfl,by go_num,hown1,hsz1,hbel1,Hd (by rw[HZ.out];exact HP.out.next HSR.out hlt (by simp))⟩
     case measure=>simp[intOf];omega
   | false =>
     by_cases hgt:z>v
     ·
      have cne:∀ W:World,Below wr.heap.size wr W->W.cell? ⟨b,off+i,none⟩=some (.int .i64 z):=fun W hb=>(hb.cell (p:=⟨b,off+i,none⟩) (Zaa hc)).trans hc
      have hblt:b<w.heap.size:=by
       obtain⟨b',o',e,c'⟩:=HI.out.cells i hlt;cases e;exact Zaa c'
      go_upto_region 8 with (at_builtin;refine Zcw _ rfl _ _ rfl w.heap.size w _ os _ rfl rfl rfl rfl (by exact HOW.out) (by omega) hsz HBEL.out ?_;intro v1 w1 hown1 hbel1 hsz1 _)
      have hc1:w1.cell? ⟨b,off+i,none⟩=some (.int .i64 z):=by
       obtain⟨b',o',e,c'⟩:=HI.out.cells i hlt;cases e;rw[(hbel1.cell (p:=⟨b,off+i,none⟩) hblt),HZ.out];exact c'
      have HO1:=Hd hown1;have HB1:=Hd hbel1;clear hown1 hbel1 hc cne;go_wp2_with (at_builtin;refine Zcw _ rfl _ _ rfl w.heap.size w _ (os++[v]) _ rfl rfl rfl rfl (by exact HO1.out) (by simp;omega) hsz1 HB1.out ?_;intro v2 w2 hown2 hbel2 hsz2 _);go_roundw
      case rel=>exact⟨i+1,true,_,by omega,rfl,by go_num,hown2,hsz2,hbel2,Hd (by rw[HZ.out];exact(HP.out.here fun y hy=>by have:=(Zq1 HSR.out hlt).1 y hy;have:=HZ.out;omega).next HSR.out hlt (by simp))⟩
      case measure=>simp[intOf];omega
     ·
      go_wp2_with (at_builtin;refine Zcw _ rfl _ _ rfl w.heap.size w _ os _ rfl rfl rfl rfl (by exact HOW.out) (by omega) hsz HBEL.out ?_;intro v1 w1 hown1 hbel1 hsz1 _);go_roundw
      case rel=>exact⟨i+1,false,_,by omega,rfl,by go_num,hown1,hsz1,hbel1,Hd (by rw[HZ.out];exact HP.out.next HSR.out hlt fun _=>by have:=HNM.out i hlt;have:=HZ.out;omega)⟩
      case measure=>simp[intOf];omega
  ·
   have he:i=zs.length:=by omega
   have hiz:¬ (i:Int)<zs.length:=by omega
   have HOW:=Hd hown;have HBEL:=Hd hbel;have HE:=Hd he;clear hown hbel he;cases d with
   | true =>
     have HF:=HFIN.out os (by rw[<- HE.out];exact HP.out);go_wp2_with fail;go_ret;exact⟨_,rfl,os,HOW.out,HF.1,HF.2,HBEL.out⟩
   | false =>
     have HF:=Hd (HFIN.out (os++[v]) (by rw[<- HE.out];exact HP.out.here (by rw[HE.out];simp)));go_wp2_with (at_builtin;refine Zcw _ rfl _ _ rfl w.heap.size w _ os _ rfl rfl rfl rfl (by exact HOW.out) (by omega) hsz HBEL.out ?_;intro v1 w1 hown1 hbel1 hsz1 _);go_ret;exact⟨_,rfl,_,hown1,HF.out.1,HF.out.2,hbel1⟩
theorem Zh1 {zs:List Int} {i:Nat} (hi:i<zs.length) (x:Int):x∈zs.take (i+1)↔x∈zs.take i\/x=at0 zs i:=by
 rw[List.take_succ_eq_append_getElem hi,List.mem_append,Zcb hi,List.mem_singleton]
theorem Zw6 (a:Option Addr) (c:Nat) (zs:List Int) (w:World) (hl:zs.length<=900000) (h:Za4 w a zs) :
 Calls Tryz.prog 126 #[.slice a zs.length c] w fun y w'=>∃ u os,y=.returned u/\OwnI w' w.heap.size u os/\((∀ x,x∈os↔x∈zs)/\os.Pairwise (· < ·))/\os.length<=zs.length/\Below w.heap.size w w':=by
 have HI:=Hd h;clear h
 go_enter Tryz.func126,Tryz.ntmps126
 go_wp2_with fail
 go_loopw [3,4] (fun s3 s4 wr=>∃ (i:Nat) (os:List Int),i<=zs.length/\s4=.int .i64 i/\OwnI wr w.heap.size s3 os/\w.heap.size<=wr.heap.size/\Below w.heap.size w wr/\os.length<=i/\Hid ((∀ x,x∈os↔x∈zs.take i)/\os.Pairwise (· < ·))) (fun _ s4 _=>zs.length-(intOf s4).toNat)
 case atStart=>exact⟨0,[],Nat.zero_le _,rfl,Zjp w _ (Nat.le_refl _),by simp,Zad w _,by simp,Hd ⟨fun x=>by simp,List.Pairwise.nil⟩⟩
 case round =>
  obtain⟨i,os,hi,rfl,hown,hsz,hbel,hol,HP⟩:=hrel
  by_cases hlt:i<zs.length
  ·
   obtain⟨b,off,rfl,hc⟩:=(HI.out.below hbel).cells i hlt;have hiz:(i:Int)<zs.length:=by omega
   obtain⟨z,hz⟩:∃ z,z=at0 zs i:=⟨_,rfl⟩;rw[<- hz] at hc;obtain⟨ao,co,rfl,hoi,hon⟩:=hown.sliceIs (by omega);have HHAS:=Hd (Zud ao co os z wr (by omega) hoi);have HPUT:Hid (z∉os->_):=Hd fun h=>Zvc ao co os z wr (by omega) hoi HP.out.2 h
   have HOW:=Hd hown;have HBEL:=Hd hbel;have HT:=Hd (Zh1 hlt);have HZ:=Hd hz;clear hown hbel hz hoi
   by_cases hm:z∈os
   ·
    have hb:decide (z∈os)=true:=by simp[hm]
    rw[hb] at HHAS
    have HM2:Hid ((∀ x,x∈os↔x∈zs.take (i+1))/\os.Pairwise (· < ·)):=Hd ⟨fun x=>by
     rw[HT.out x,<- HZ.out];constructor
     ·
      intro h;exact .inl ((HP.out.1 x).1 h)
     ·
      rintro(h|rfl)
      ·
       exact(HP.out.1 x).2 h
      ·
       exact hm,HP.out.2⟩
    clear hm hb HPUT;go_wp2_with fail;refine HHAS.out.mono ?_;rintro y w' ⟨rfl,rfl⟩;go_wp2_with fail;go_roundw
    case rel=>exact⟨i+1,os,by omega,by go_num,HOW.out,hsz,HBEL.out,by omega,HM2⟩
    case measure=>simp[intOf];omega
   ·
    have hb:decide (z∈os)=false:=by simp[hm]
    rw[hb] at HHAS;have HPUT:=Hd (HPUT.out hm);clear hm hb;go_wp2_with fail;refine HHAS.out.mono ?_;rintro y w' ⟨rfl,rfl⟩;go_wp2_with fail;refine HPUT.out.mono ?_;rintro y w2 ⟨u,os2,rfl,hown2,hmem2,hlen2,hb2⟩
    have HM2:Hid ((∀ x,x∈os2↔x∈zs.take (i+1))/\os2.Pairwise (· < ·)):=Hd ⟨fun x=>by
     rw[hmem2.1 x,HT.out x,<- HZ.out,HP.out.1 x],hmem2.2⟩
    have HO2:Hid (OwnI w2 w.heap.size u os2):=Hd (hown2.lower hsz);have HB2:=Hd (HBEL.out.trans (hb2.mono hsz));have hs2:w.heap.size<=w2.heap.size:=Nat.le_trans hsz hb2.size;clear hown2 hmem2 hb2;go_wp2_with fail;go_roundw
    case rel=>exact⟨i+1,os2,by omega,by go_num,HO2.out,hs2,HB2.out,by omega,HM2⟩
    case measure=>simp[intOf];omega
  ·
   have he:i=zs.length:=by omega
   have hiz:¬ (i:Int)<zs.length:=by omega
   have HOW:=Hd hown;have HBEL:=Hd hbel;have HM:Hid ((∀ x,x∈os↔x∈zs)/\os.Pairwise (· < ·)):=Hd ⟨fun x=>by have:=HP.out.1 x;rw[he,List.take_length] at this;exact this,HP.out.2⟩;have hol2:os.length<=zs.length:=by omega
   clear hown hbel he;go_wp2_with fail;go_ret;exact⟨_,rfl,os,HOW.out,HM.out,hol2,HBEL.out⟩
theorem Zaq.agg {w:World} {e:ExT} {x:Value} (h:Zaq w e x):∃ x0 x1 x2,x=.agg #[x0,x1,x2]/\x0.cells=#[x0]/\x1.cells=#[x1]/\x2.cells=#[x2]:=by
 cases e with
 | nil=>unfold Zaq at h;exact h.elim
 | mk op v n kid =>
   unfold Zaq at h;obtain⟨a,c,rfl,_⟩:=h;exact⟨_,_,_,rfl,rfl,rfl,rfl⟩
theorem Zig (e:ExT) (x:Value) (w:World) (hs:e.size<=4096) (h:Zaq w e x) :
 Calls Tryz.prog 57 #[x] w fun y w'=>∃ u os,y=.returned u/\SliceIs w' u os/\os.length<=4096/\(okT e 1->(∀ v,v∈os↔v∈Zbe e)/\os.Pairwise (· < ·))/\Below w.heap.size w w':=by
 have HC:Hid (∀ W,Below w.heap.size w W->∀ u,u=x->Calls Tryz.prog 56 #[u] W fun y w'=>∃ err:Int,y=.returned (.int .i64 err)/\(err=0↔okT e 1)/\Below W.heap.size W w'):=Hd fun W hb u hu=>by subst hu;exact Zhc e _ W hs (h.below hb)
 have HV:Hid (∀ W,Below w.heap.size w W->∀ u,u=x->Calls Tryz.prog 127 #[u] W fun y w'=>∃ u,y=.returned u/\OwnI w' W.heap.size u (Zbe e)/\Below W.heap.size W w'):=Hd fun W hb u hu=>by subst hu;exact Zly e _ W hs (h.below hb)
 have hvl:=Zeq e;obtain⟨x0,x1,x2,hx,o0,o1,o2⟩:=h.agg;subst hx;obtain⟨w1,hw1⟩:∃ w1,w1=w.alloc (.cells #[x0,x1,x2] 86):=⟨_,rfl⟩;have HW1:Hid (_=w1):=Hd hw1.symm;have HB1:Hid (Below w.heap.size w w1):=by rw[hw1];exact Hd (Zad _ _)
 have hblk:w1.heap[w.heap.size]?=some (.cells #[x0,x1,x2] 86 (0,0)):=by rw[hw1];exact heap_alloc_new _ _
 have d0:w1.cell? ⟨w.heap.size,0,none⟩=some x0:=by rw[cell_of_row _ _ 0 _ _ _ hblk];rfl
 have d1:w1.cell? ⟨w.heap.size,1,none⟩=some x1:=by rw[cell_of_row _ _ 1 _ _ _ hblk];rfl
 have d2:w1.cell? ⟨w.heap.size,2,none⟩=some x2:=by rw[cell_of_row _ _ 2 _ _ _ hblk];rfl
 clear h hw1 hblk
 go_enter Tryz.func57,Tryz.ntmps57
 go_upto_region 1 with fail;rw[HW1.out];go_wp2_with fail;refine(HC.out _ HB1.out _ rfl).mono ?_;rintro y w2 ⟨err,rfl,hiff,hb2⟩;have HB2:=Hd (HB1.out.trans (hb2.mono HB1.out.size));have HIF:=Hd hiff;have e0:=(hb2.cell (p:=⟨w.heap.size,0,none⟩) (Zaa d0)).trans d0;have e1:=(hb2.cell (p:=⟨w.heap.size,1,none⟩) (Zaa d1)).trans d1;have e2:=(hb2.cell (p:=⟨w.heap.size,2,none⟩) (Zaa d2)).trans d2;clear hb2 hiff d0 d1 d2
 by_cases he:err=0
 ·
  subst he;go_wp2_with fail;refine(HV.out _ HB2.out _ rfl).mono ?_;rintro y w3 ⟨u,rfl,hu,hb3⟩;obtain⟨au,cu,rfl,hua,hun⟩:=hu.sliceIs (by omega);have HO:=Hd (Zw6 au cu (Zbe e) w3 (by omega) hua);have HB3:=Hd (HB2.out.trans (hb3.mono HB2.out.size));clear hu hua hb3 e0 e1 e2;go_wp2_with fail;refine HO.out.mono ?_;rintro y w4 ⟨u4,os,rfl,hown,hmem,hlen,hb4⟩;have HF:Hid (∃ u os,Ending.returned u4=.returned u/\SliceIs w4 u os/\os.length<=4096/\(okT e 1->(∀ v,v∈os↔v∈Zbe e)/\os.Pairwise (· < ·))/\Below w.heap.size w w4):=Hd ⟨u4,os,rfl,hown.sliceIs (by omega),by omega,fun _=>hmem,HB3.out.trans (hb4.mono HB3.out.size)⟩;clear hown hmem hlen hb4;go_wp2_with fail;go_ret;exact HF.out
 ·
  have hne:(err != 0)=true:=by simpa using he
  have HF:Hid (∃ u os,Ending.returned (.slice none 0 0)=.returned u/\SliceIs w2 u os/\os.length<=4096/\(okT e 1->(∀ v,v∈os↔v∈Zbe e)/\os.Pairwise (· < ·))/\Below w.heap.size w w2):=Hd ⟨_,[],rfl,Zko w2,by simp,fun h=>(he (HIF.out.2 h)).elim,HB2.out⟩;clear he e0 e1 e2;go_wp2_with fail;go_ret;exact HF.out
theorem Zm9 (e:ExT) (x:Value) (w:World) (hs:e.size<=4096) (h:Zaq w e x) :
 Calls Tryz.prog 57 #[x] w fun y w'=>∃ u os,y=.returned u/\SliceIs w' u os/\os.length<=4096/\(okT e 1->∀ v∈Zbe e,v∈os)/\Below w.heap.size w w' :=
 (Zig e x w hs h).mono fun _ _ ⟨u,os,h1,h2,h3,h4,h5⟩=>⟨u,os,h1,h2,h3,fun hk v hv=>((h4 hk).1 v).2 hv,h5⟩
open Go.RowKit
structure EvsAt (w:World) (a:Option Addr) (l:List Ev):Prop where
 len:l.length<=9223372036854775807
 cells:∀ k,∀ hk:k<l.length,∃ b off,a=some ⟨b,off,none⟩/\w.cell? ⟨b,off+k*3,none⟩=some (.int .i64 l[k].after)/\w.cell? ⟨b,off+k*3+1,none⟩=some (.int .i64 l[k].kind)/\w.cell? ⟨b,off+k*3+2,none⟩=some (.int .i64 l[k].level)
theorem EvsAt.below {w w':World} {a:Option Addr} {l:List Ev} (h:EvsAt w a l) (hb:Below w.heap.size w w'):EvsAt w' a l :=
 ⟨h.len,fun k hk=>by
  obtain⟨b,off,e,c0,c1,c2⟩:=h.cells k hk;exact⟨b,off,e,(hb.cell (p:=⟨b,off+k*3,none⟩) (Zaa c0)).trans c0,(hb.cell (p:=⟨b,off+k*3+1,none⟩) (Zaa c1)).trans c1,(hb.cell (p:=⟨b,off+k*3+2,none⟩) (Zaa c2)).trans c2⟩⟩
def Zg1 (vars:Int) (e:Ev):Int:=if e.kind<1\/e.kind>3 then 11 else if e.after<1\/(e.kind=2/\(e.level<0\/e.level>vars-2)) then 2 else 0
def Zk2 (vars:Int):List Ev->Int
 | []=>0
 | e::r=>if Zg1 vars e=0 then Zk2 vars r else Zg1 vars e
def Zeu (vars waits:Int) (l:List Ev):Int:=if (l.length:Int)>256-waits then 18 else Zk2 vars l
theorem Zgs {vars:Int} {l:List Ev} {i:Nat} (hi:i<l.length):Zk2 vars (l.drop i)=if Zg1 vars l[i]=0 then Zk2 vars (l.drop (i+1)) else Zg1 vars l[i]:=by
 rw[List.drop_eq_getElem_cons hi];rfl
theorem Zsm (vars waits:Int) (hv:0<=vars/\vars<=1000) (hw:0<=waits/\waits<=1000) (a:Option Addr) (c:Nat) (l:List Ev) (w:World) (h:EvsAt w a l) :
 Calls Tryz.prog 65 #[.int .i64 vars,.int .i64 waits,.slice a l.length c] w fun y w'=>y=.returned (.int .i64 (Zeu vars waits l))/\w=w':=by
 have HI:=Hd h;have hl:=h.len;clear h
 by_cases hmany:(l.length:Int)>256-waits
 ·
  have HR:Hid (Zeu vars waits l=18):=Hd (by unfold Zeu;rw[if_pos hmany])
  go_enter Tryz.func65,Tryz.ntmps65
  go_wp2_with fail;go_ret;exact⟨by rw[HR.out];rfl,rfl⟩
 have HR:Hid (Zeu vars waits l=Zk2 vars (l.drop 0)):=Hd (by unfold Zeu;rw[if_neg hmany];rfl);obtain⟨P,hP⟩:∃ P,P=Zeu vars waits l:=⟨_,rfl⟩;rw[<- hP] at HR ⊢;clear hP
 go_enter Tryz.func65,Tryz.ntmps65
 go_wp2_with fail
 go_loopw [7] (fun s7 wr=>∃ i:Nat,i<=l.length/\s7=.int .i64 i/\w=wr/\Hid (P=Zk2 vars (l.drop i))) (fun s7 _=>l.length-(intOf s7).toNat)
 case atStart=>exact⟨0,Nat.zero_le _,rfl,rfl,HR⟩
 case round =>
  clear HR;obtain⟨i,hi,rfl,rfl,HP⟩:=hrel
  by_cases hlt:i<l.length
  ·
   obtain⟨b,off,rfl,c0,c1,c2⟩:=HI.out.cells i hlt;have hiz:(i:Int)<l.length:=by omega
   have HC:Hid (∀ z:Int,Zg1 vars l[i]=z->z≠0->P=z):=Hd fun z hz h0=>by rw[HP.out,Zgs hlt,hz,if_neg h0]
   have HN:Hid (Zg1 vars l[i]=0->P=Zk2 vars (l.drop (i+1))):=Hd fun hz=>by rw[HP.out,Zgs hlt,hz,if_pos rfl]
   have HE:Hid (Zg1 vars l[i]=if l[i].kind<1\/l[i].kind>3 then 11 else if l[i].after<1\/(l[i].kind=2/\(l[i].level<0\/l[i].level>vars-2)) then 2 else 0):=Hd rfl;obtain⟨ev,hev⟩:∃ ev,ev=l[i]:=⟨_,rfl⟩;rw[<- hev] at c0 c1 c2 HC HN HE;obtain⟨af,ki,le⟩:=ev;dsimp only at c0 c1 c2 HE;clear hev HP;have hki:ki<1\/ki>3\/(ki=2)\/(ki=1\/ki=3):=by omega
   rcases hki with hk|hk|hk|hk
   ·
    have HPP:=Hd (HC.out 11 (by rw[HE.out,if_pos (.inl hk)]) (by decide));go_wp2_with fail;go_ret;exact⟨by rw[HPP.out];rfl,rfl⟩
   ·
    have HPP:=Hd (HC.out 11 (by rw[HE.out,if_pos (.inr hk)]) (by decide));have hk1:¬ ki<1:=by omega
    go_wp2_with fail;go_ret;exact⟨by rw[HPP.out];rfl,rfl⟩
   ·
    by_cases ha:af<1
    ·
     have HPP:=Hd (HC.out 2 (by rw[HE.out,if_neg (by omega),if_pos (.inl ha)]) (by decide));subst hk;go_wp2_with fail;go_ret;exact⟨by rw[HPP.out];rfl,rfl⟩
    ·
     by_cases hl0:le<0
     ·
      have HPP:=Hd (HC.out 2 (by rw[HE.out,if_neg (by omega),if_pos (.inr ⟨hk,.inl hl0⟩)]) (by decide));subst hk;go_wp2_with fail;go_ret;exact⟨by rw[HPP.out];rfl,rfl⟩
     ·
      by_cases hl1:le>vars-2
      ·
       have HPP:=Hd (HC.out 2 (by rw[HE.out,if_neg (by omega),if_pos (.inr ⟨hk,.inr hl1⟩)]) (by decide));subst hk;go_wp2_with fail;go_ret;exact⟨by rw[HPP.out];rfl,rfl⟩
      ·
       have HPP:=Hd (HN.out (by rw[HE.out,if_neg (by omega),if_neg (by omega)]));subst hk;go_wp2_with fail;go_roundw
       case rel=>exact⟨i+1,by omega,by go_num,by simp,HPP⟩
       case measure=>simp[intOf];omega
   ·
    have hk1:¬ ki<1:=by omega
    have hk2:¬ ki>3:=by omega
    have hk3:(ki == 2)=false:=by simp;omega
    by_cases ha:af<1
    ·
     have HPP:=Hd (HC.out 2 (by rw[HE.out,if_neg (by omega),if_pos (.inl ha)]) (by decide));clear hk;go_wp2_with fail;go_ret;exact⟨by rw[HPP.out];rfl,rfl⟩
    ·
     have HPP:=Hd (HN.out (by rw[HE.out,if_neg (by omega),if_neg (by omega)]));clear hk;go_wp2_with fail;go_roundw
     case rel=>exact⟨i+1,by omega,by go_num,by simp,HPP⟩
     case measure=>simp[intOf];omega
  ·
   have he:i=l.length:=by omega
   have hiz:¬ (i:Int)<l.length:=by omega
   have HPP:Hid (P=0):=Hd (by rw[HP.out,he,List.drop_length];rfl);clear he;go_wp2_with fail;go_ret;exact⟨by rw[HPP.out];rfl,rfl⟩
open Go.RowKit
def cntP (zs:List Int) (v:Int) (i:Nat):Nat:=((zs.take i).filter (fun z=>decide (z=v))).length
theorem Zfh {zs:List Int} {v:Int} {i:Nat} (hi:i<zs.length) (h:at0 zs i=v):cntP zs v (i+1)=cntP zs v i+1:=by
 rw[Zcb hi] at h;unfold cntP;rw[List.take_succ_eq_append_getElem hi,List.filter_append];simp[h]
theorem Zpm {zs:List Int} {v:Int} {i:Nat} (hi:i<zs.length) (h:at0 zs i≠v):cntP zs v (i+1)=cntP zs v i:=by
 rw[Zcb hi] at h;unfold cntP;rw[List.take_succ_eq_append_getElem hi,List.filter_append];simp[h]
theorem Zyv (zs:List Int) (v:Int) (i:Nat):cntP zs v i<=i:=by
 unfold cntP;refine Nat.le_trans (List.length_filter_le _ _) ?_;rw[List.length_take];omega
def Zgg (zs:List Int) (n:Int):Bool:=decide ((zs.length:Int)=n/\∀ v,v<zs.length->cntP zs (v:Nat) zs.length=1)
theorem Zvh (a:Option Addr) (c:Nat) (zs:List Int) (n:Int) (w:World) (hz:Za4 w a zs) (hl:zs.length<=1000000) :
 Calls Tryz.prog 64 #[.slice a zs.length c,.int .i64 n] w fun x w'=>x=.returned (.bool (Zgg zs n))/\w=w':=by
 have HZ:=Hd hz;clear hz
 by_cases hn:(zs.length:Int)=n
 ·
  subst hn;have HR:Hid (∀ b:Bool,(b=true↔∀ v,v<zs.length->cntP zs (v:Nat) zs.length=1)->Zgg zs zs.length=b):=by
   refine Hd fun b hb=>?_
   unfold Zgg;rw[Bool.eq_iff_iff,hb];simp
  go_enter Tryz.func64,Tryz.ntmps64
  go_wp2_with fail
  go_loopw [5] (fun s5 wr=>∃ k:Nat,k<=zs.length/\s5=.int .i64 k/\w=wr/\∀ v,v<k->cntP zs (v:Nat) zs.length=1) (fun s5 _=>zs.length-(intOf s5).toNat)
  case atStart=>exact⟨0,Nat.zero_le _,rfl,rfl,fun v hv=>by omega⟩
  case round =>
   obtain⟨k,hk,rfl,rfl,hall⟩:=hrel;have HA:=Hd hall;clear hall
   by_cases hlt:k<zs.length
   ·
    have hk1:(k:Int)<zs.length:=by omega
    go_wp2_with fail
    go_loopw [6,7] (fun s6 s7 wx=>∃ i:Nat,i<=zs.length/\s7=.int .i64 i/\s6=.int .i64 (cntP zs (k:Nat) i:Nat)/\w=wx) (fun _ s7 _=>zs.length-(intOf s7).toNat)
    case atStart=>exact⟨0,Nat.zero_le _,rfl,rfl,rfl⟩
    case round =>
     obtain⟨i,hi,rfl,rfl,rfl⟩:=hrel;have hcl:=Zyv zs (k:Nat) i
     by_cases hit:i<zs.length
     ·
      obtain⟨b,off,ha,hc⟩:=HZ.out.cells i hit;subst ha;have hi1:(i:Int)<zs.length:=by omega
      by_cases he:at0 zs i=(k:Nat)
      ·
       rw[he] at hc;have HY:=Hd (Zfh hit he);go_wp2_with fail;go_roundw
       case rel=>exact⟨i+1,by omega,by go_num,by rw[HY.out];go_num,trivial⟩
       case measure=>simp[intOf];omega
      ·
       have hne:((at0 zs i:Int) == (k:Nat))=false:=by simpa using he
       have HY:=Hd (Zpm hit he)
       generalize at0 zs i=z at hc hne
       clear he;go_wp2_with fail;go_roundw
       case rel=>exact⟨i+1,by omega,by go_num,by rw[HY.out],trivial⟩
       case measure=>simp[intOf];omega
     ·
      obtain rfl:i=zs.length:=by omega
      generalize hq:cntP zs (k:Nat) zs.length=q at *
      by_cases h1:q=1
      ·
       subst h1;have HQ:=Hd hq;clear hq;go_wp2_with fail;go_roundw
       case rel =>
        refine⟨k+1,by omega,by go_num,trivial,fun v hv=>?_⟩
        by_cases e:v=k
        ·
         subst e;exact HQ.out
        ·
         exact HA.out v (by omega)
       case measure=>simp[intOf];omega
      ·
       have hne:((q:Int) == 1)=false:=by simp;omega
       have HQ:=Hd hq;clear hq;go_wp2_with fail;go_ret;refine⟨?_,rfl⟩
       rw[HR.out false (by
        simp only[Bool.false_eq_true,false_iff];intro hh;exact h1 ((HQ.out).symm.trans (hh k hlt)))]
       rfl
   ·
    obtain rfl:k=zs.length:=by omega
    go_wp2_with fail;go_ret;refine⟨?_,rfl⟩;rw[HR.out true (by simp only[true_iff];exact HA.out)];rfl
 ·
  have hne:(((zs.length:Nat):Int) == n)=false:=by simpa using hn
  have HR:Hid (Zgg zs n=false):=by
   refine Hd ?_
   show Zgg zs n=false
   unfold Zgg;simp[hn]
  go_enter Tryz.func64,Tryz.ntmps64
  go_wp2_with fail;go_ret;exact⟨by rw[HR.out];rfl,rfl⟩
open Go.RowKit
theorem Zxd (a:Option Addr) (c:Nat) (zs:List Int) (n:Int) (w:World) (hz:Za4 w a zs) (hn:(zs.length:Int)≠n) :
 Calls Tryz.prog 64 #[.slice a zs.length c,.int .i64 n] w fun x w'=>x=.returned (.bool false)/\w=w':=by
 have hl:=hz.len;have hne:(((zs.length:Nat):Int) == n)=false:=by simpa using hn
 clear hz
 go_enter Tryz.func64,Tryz.ntmps64
 go_wp2_with fail;go_ret;exact⟨rfl,rfl⟩
theorem Zvg (a:Option Addr) (c:Nat) (zs:List Int) (n:Int) (w:World) (hz:Za4 w a zs) (hn:n<=1000) :
 Calls Tryz.prog 64 #[.slice a zs.length c,.int .i64 n] w fun x w'=>x=.returned (.bool (Zgg zs n))/\w=w':=by
 by_cases h:(zs.length:Int)=n
 ·
  exact Zvh a c zs n w hz (by omega)
 ·
  have:Zgg zs n=false:=by unfold Zgg;simp[h]
  rw[this];exact Zxd a c zs n w hz h
theorem Zaq.parts {w:World} {e:ExT} {x0 x1 x2:Value} (h:Zaq w e (.agg #[x0,x1,x2])):∃ op v a n c,x0=.int .i64 op/\x1=.int .i64 v/\x2=.slice a n c:=by
 cases e with
 | nil=>unfold Zaq at h;exact h.elim
 | mk op v n kid =>
   unfold Zaq at h;obtain⟨a,c,hx,_⟩:=h;cases hx;exact⟨_,_,_,_,_,rfl,rfl,rfl⟩
structure Zjt (w:World) (a:Option Addr) (l:List ExT):Prop where
 len:l.length<=9223372036854775807
 cells:∀ k,∀ hk:k<l.length,∃ b off x0 x1 x2,a=some ⟨b,off,none⟩/\w.cell? ⟨b,off+k*3,none⟩=some x0/\w.cell? ⟨b,off+k*3+1,none⟩=some x1/\w.cell? ⟨b,off+k*3+2,none⟩=some x2/\Zaq w l[k] (.agg #[x0,x1,x2])
theorem Zjt.below {w w':World} {a:Option Addr} {l:List ExT} (h:Zjt w a l) (hb:Below w.heap.size w w'):Zjt w' a l :=
 ⟨h.len,fun k hk=>by
  obtain⟨b,off,x0,x1,x2,e,c0,c1,c2,hx⟩:=h.cells k hk;exact⟨b,off,x0,x1,x2,e,(hb.cell (p:=⟨b,off+k*3,none⟩) (Zaa c0)).trans c0,(hb.cell (p:=⟨b,off+k*3+1,none⟩) (Zaa c1)).trans c1,(hb.cell (p:=⟨b,off+k*3+2,none⟩) (Zaa c2)).trans c2,hx.below hb⟩⟩
structure AskD where
 vars:Int
 order:List Int
 es:List ExT
 plan:List Ev
structure AskAt (w:World) (q:AskD) (ao ae ap:Option Addr):Prop where
 vars:okI q.vars
 order:Za4 w ao q.order
 es:Zjt w ae q.es
 plan:EvsAt w ap q.plan
theorem AskAt.below {w w':World} {q:AskD} {ao ae ap:Option Addr} (h:AskAt w q ao ae ap) (hb:Below w.heap.size w w'):AskAt w' q ao ae ap:=⟨h.vars,h.order.below hb,h.es.below hb,h.plan.below hb⟩
structure Zld (q:AskD):Prop where
 lo:1<=q.vars
 hi:q.vars<=6
 es:q.es.length<=5
 plan:q.plan.length<=6
 order:q.order.length>0->Zgg q.order q.vars=true
 planOk:Zeu q.vars 0 q.plan=0
 after:∀ ev∈q.plan,ev.after<=300
 expr:∀ e∈q.es,e.size<=40/\okT e 1/\∀ v∈Zbe e,v<q.vars
def askV (q:AskD) (ao ae ap:Option Addr) (co ce cp:Nat):Value:=.agg #[.int .i64 q.vars,.slice ao q.order.length co,.slice ae q.es.length ce,.slice ap q.plan.length cp]
theorem Zvq (q:AskD) (ao ae ap:Option Addr) (co ce cp:Nat) (w:World) (h:AskAt w q ao ae ap) :
 Calls Tryz.prog 15 #[askV q ao ae ap co ce cp] w fun y w'=>∃ b,y=.returned (.bool b)/\(b=true->Zld q)/\Below w.heap.size w w':=by
 obtain⟨vars,order,es,plan⟩:=q;obtain⟨hv,ho,he,hp⟩:=h;dsimp only [askV] at hv ho he hp ⊢;unfold okI at hv;have hol:=ho.len;have hel:=he.len;have hpl:=hp.len;have HO:=Hd ho;have HE:=Hd he;have HP:=Hd hp;obtain⟨w1,hw1⟩:∃ w1,w1=w.alloc (.cells #[.int .i64 vars,.slice ao order.length co,.slice ae es.length ce,.slice ap plan.length cp] 26):=⟨_,rfl⟩;have HW1:Hid (_=w1):=Hd hw1.symm;have HB1:Hid (Below w.heap.size w w1):=by rw[hw1];exact Hd (Zad _ _)
 have hblk:w1.heap[w.heap.size]?=some (.cells #[.int .i64 vars,.slice ao order.length co,.slice ae es.length ce,.slice ap plan.length cp] 26 (0,0)):=by rw[hw1];exact heap_alloc_new _ _
 have d0:w1.cell? ⟨w.heap.size,0,none⟩=some (.int .i64 vars):=by rw[cell_of_row _ _ 0 _ _ _ hblk];rfl
 have d1:w1.cell? ⟨w.heap.size,1,none⟩=some (.slice ao order.length co):=by rw[cell_of_row _ _ 1 _ _ _ hblk];rfl
 have d2:w1.cell? ⟨w.heap.size,2,none⟩=some (.slice ae es.length ce):=by rw[cell_of_row _ _ 2 _ _ _ hblk];rfl
 have d3:w1.cell? ⟨w.heap.size,3,none⟩=some (.slice ap plan.length cp):=by rw[cell_of_row _ _ 3 _ _ _ hblk];rfl
 have hs1:w1.heap.size=w.heap.size+1:=by rw[hw1];simp
 have HRT:Hid (vars<=6->Calls Tryz.prog 64 #[.slice ao order.length co,.int .i64 vars] w1 fun x w'=>x=.returned (.bool (Zgg order vars))/\w1=w'):=Hd fun hh=>Zvg ao co order vars w1 (HO.out.below HB1.out) (by omega)
 have HPL:Hid (0<=vars->vars<=6->Calls Tryz.prog 65 #[.int .i64 vars,.int .i64 0,.slice ap plan.length cp] w1 fun x w'=>x=.returned (.int .i64 (Zeu vars 0 plan))/\w1=w'):=Hd fun h1 h2=>Zsm vars 0 ⟨h1,by omega⟩ ⟨by omega,by omega⟩ ap cp plan w1 (HP.out.below HB1.out)
 obtain⟨P,hP⟩:∃ P:Ending->World->Prop,P=fun y w'=>∃ b,y=.returned (.bool b)/\(b=true->Zld ⟨vars,order,es,plan⟩)/\Below w.heap.size w w':=⟨_,rfl⟩
 have HNO:Hid (∀ W,Below w1.heap.size w1 W->P (.returned (.bool false)) W):=by rw[hP];exact Hd fun W hb=>⟨false,rfl,by simp,HB1.out.trans (hb.mono HB1.out.size)⟩
 have HYES:Hid (Zld ⟨vars,order,es,plan⟩->∀ W,Below w1.heap.size w1 W->P (.returned (.bool true)) W):=by rw[hP];exact Hd fun hq W hb=>⟨true,rfl,fun _=>hq,HB1.out.trans (hb.mono HB1.out.size)⟩
 rw[<- hP];clear ho he hp hw1 hblk hP
 go_enter Tryz.func15,Tryz.ntmps15
 go_upto_region 1 with fail;rw[HW1.out]
 go_cut [50] (fun s50 wx=>∃ bad:Bool,s50=.bool bad/\wx=w1/\Hid (bad=false->1<=vars/\vars<=6/\es.length<=5/\plan.length<=6/\(order.length>0->Zgg order vars=true)/\Zeu vars 0 plan=0))
 case first =>
  by_cases h1:vars<1
  ·
   go_wp2_with fail;go_meet
   case rel=>exact⟨true,rfl,rfl,Hd (by simp)⟩
  by_cases h2:vars>6
  ·
   go_wp2_with fail;go_meet
   case rel=>exact⟨true,rfl,rfl,Hd (by simp)⟩
  by_cases h3:(es.length:Int)>5
  ·
   go_wp2_with fail;go_meet
   case rel=>exact⟨true,rfl,rfl,Hd (by simp)⟩
  by_cases h4:(plan.length:Int)>6
  ·
   go_wp2_with fail;go_meet
   case rel=>exact⟨true,rfl,rfl,Hd (by simp)⟩
  have HPL:=Hd (HPL.out (by omega) (by omega));have HRT:=Hd (HRT.out (by omega));obtain⟨pr,hpr⟩:∃ pr,pr=Zeu vars 0 plan:=⟨_,rfl⟩;rw[<- hpr] at HPL;have HPR:=Hd hpr;clear hpr
  by_cases h5:(order.length:Int)>0
  ·
   obtain⟨rb,hrb⟩:∃ rb,rb=Zgg order vars:=⟨_,rfl⟩;rw[<- hrb] at HRT;have HRB:=Hd hrb;clear hrb;cases rb with
   | false =>
     go_wp2_with fail;refine HRT.out.mono ?_;rintro y w' ⟨rfl,rfl⟩;go_wp2_with fail;go_meet
     case rel=>exact⟨true,rfl,rfl,Hd (by simp)⟩
   | true =>
     go_wp2_with fail;refine HRT.out.mono ?_;rintro y w' ⟨rfl,rfl⟩;go_wp2_with fail;refine HPL.out.mono ?_;rintro y w' ⟨rfl,rfl⟩
     by_cases h6:pr=0
     ·
      have HOK:Hid (1<=vars/\vars<=6/\es.length<=5/\plan.length<=6/\(order.length>0->Zgg order vars=true)/\Zeu vars 0 plan=0):=Hd ⟨by omega,by omega,by omega,by omega,fun _=>HRB.out.symm,by rw[<- HPR.out,h6]⟩;subst h6;go_wp2_with fail;go_meet
      case rel=>exact⟨false,rfl,rfl,Hd fun _=>HOK.out⟩
     ·
      have h6':(pr != 0)=true:=by simpa using h6
      clear h6;go_wp2_with fail;go_meet
      case rel=>exact⟨true,rfl,rfl,Hd (by simp)⟩
  ·
   go_wp2_with fail;refine HPL.out.mono ?_;rintro y w' ⟨rfl,rfl⟩
   by_cases h6:pr=0
   ·
    have HOK:Hid (1<=vars/\vars<=6/\es.length<=5/\plan.length<=6/\(order.length>0->Zgg order vars=true)/\Zeu vars 0 plan=0):=Hd ⟨by omega,by omega,by omega,by omega,fun _=>by omega,by rw[<- HPR.out,h6]⟩;subst h6;go_wp2_with fail;go_meet
    case rel=>exact⟨false,rfl,rfl,Hd fun _=>HOK.out⟩
   ·
    have h6':(pr != 0)=true:=by simpa using h6
    clear h6;go_wp2_with fail;go_meet
    case rel=>exact⟨true,rfl,rfl,Hd (by simp)⟩
 case rest =>
  obtain⟨bad,rfl,rfl,HBAD⟩:=hcut;clear HRT HPL;cases bad with
  | true =>
    go_wp2_with fail;exact HNO.out _ (Below.refl _ _)
  | false =>
    obtain⟨g1,g2,g3,g4,g5,g6⟩:=HBAD.out rfl;have HG5:=Hd g5;have HG6:=Hd g6;clear g5 g6 HBAD;go_upto_region 3 with fail;go_wp2_with fail
    go_loopw [4,54] (fun s4 s54 wr=>∃ k:Nat,k<=plan.length/\s54=.int .i64 k/\Below wc.heap.size wc wr/\Hid (∀ ev∈plan.take k,ev.after<=300)) (fun _ s54 _=>plan.length-(intOf s54).toNat)
    case atStart=>exact⟨0,Nat.zero_le _,rfl,Below.refl _ _,Hd fun ev he=>by simp at he⟩
    case round =>
     obtain⟨k,hk,rfl,hbel,HA⟩:=hrel
     by_cases hlt:k<plan.length
     ·
      obtain⟨b,off,rfl,c0,c1,c2⟩:=((HP.out.below HB1.out).below hbel).cells k hlt;have hkz:(k:Int)<plan.length:=by omega
      have HBEL:=Hd hbel;have HTK:Hid (∀ ev∈plan.take (k+1),ev∈plan.take k\/ev=plan[k]):=Hd fun ev he=>by
       rw[List.take_succ_eq_append_getElem hlt,List.mem_append,List.mem_singleton] at he;exact he
      obtain⟨ev,hev⟩:∃ ev,ev=plan[k]:=⟨_,rfl⟩;rw[<- hev] at c0 c1 c2 HTK;obtain⟨af,ki,le⟩:=ev;dsimp only at c0 c1 c2;clear hev hbel
      by_cases haf:af>300
      ·
       have HF:=Hd (HNO.out _ (HBEL.out.trans ((Zad wr (.cells #[.int .i64 af,.int .i64 ki,.int .i64 le] 103)).mono HBEL.out.size)));go_wp2_with fail;exact HF.out
      ·
       have HF:=Hd (HBEL.out.trans ((Zad wr (.cells #[.int .i64 af,.int .i64 ki,.int .i64 le] 103)).mono HBEL.out.size));have HA2:Hid (∀ ev∈plan.take (k+1),ev.after<=300):=Hd fun ev he=>by
        rcases HTK.out ev he with h|rfl
        ·
         exact HA.out ev h
        ·
         dsimp only;omega
       go_wp2_with fail;go_roundw
       case rel=>exact⟨k+1,by omega,by go_num,HF.out,HA2⟩
       case measure=>simp[intOf];omega
     ·
      have HAF:Hid (∀ ev∈plan,ev.after<=300):=Hd fun ev hev=>HA.out ev (by rw[List.take_of_length_le (by omega)];exact hev)
      have hkz:¬ (k:Int)<plan.length:=by omega
      have d0':=(hbel.cell (p:=⟨w.heap.size,0,none⟩) (Zaa d0)).trans d0;have d2':=(hbel.cell (p:=⟨w.heap.size,2,none⟩) (Zaa d2)).trans d2;have HBEL:=Hd hbel;obtain⟨wA,hwA⟩:∃ wA,wA=wr:=⟨_,rfl⟩;clear hbel;go_wp2_with fail
      go_loopw [6,8,65] (fun s6 s8 s65 wx=>∃ k:Nat,k<=es.length/\s65=.int .i64 k/\Below wc.heap.size wc wx/\Hid (∀ e∈es.take k,e.size<=40/\okT e 1/\∀ v∈Zbe e,v<vars)) (fun _ _ s65 _=>es.length-(intOf s65).toNat)
      case atStart=>exact⟨0,Nat.zero_le _,rfl,HBEL.out,Hd fun ev he=>by simp at he⟩
      case round =>
       rename World=>wy
       obtain⟨j,hj,rfl,hbx,HB⟩:=hrel
       by_cases hlt:j<es.length
       ·
        obtain⟨b,off,x0,x1,x2,rfl,c0,c1,c2,hx⟩:=((HE.out.below HB1.out).below hbx).cells j hlt;have hjz:(j:Int)<es.length:=by omega
        have HBX:=Hd hbx;have HTK:Hid (∀ e∈es.take (j+1),e∈es.take j\/e=es[j]):=Hd fun e he=>by
         rw[List.take_succ_eq_append_getElem hlt,List.mem_append,List.mem_singleton] at he;exact he
        have hd0:=(hbx.cell (p:=⟨w.heap.size,0,none⟩) (Zaa d0)).trans d0;obtain⟨e,hev⟩:∃ e,e=es[j]:=⟨_,rfl⟩;rw[<- hev] at hx HTK;have HX:=Hd hx;obtain⟨zo,zv,za,zn,zc,rfl,rfl,rfl⟩:=hx.parts;clear hev hbx hx;go_upto_region 12 with fail;obtain⟨wz,hwz⟩:∃ wz,wz=wy.alloc (.cells #[.int .i64 zo,.int .i64 zv,.slice za zn zc] 86):=⟨_,rfl⟩;have hbz:Below wy.heap.size wy wz:=by rw[hwz];exact Zad _ _
        have hblk:wz.heap[wy.heap.size]?=some (.cells #[.int .i64 zo,.int .i64 zv,.slice za zn zc] 86 (0,0)):=by rw[hwz];exact heap_alloc_new _ _
        have k0:wz.cell? ⟨wy.heap.size,0,none⟩=some (.int .i64 zo):=by rw[cell_of_row _ _ 0 _ _ _ hblk];rfl
        have k1:wz.cell? ⟨wy.heap.size,1,none⟩=some (.int .i64 zv):=by rw[cell_of_row _ _ 1 _ _ _ hblk];rfl
        have k2:wz.cell? ⟨wy.heap.size,2,none⟩=some (.slice za zn zc):=by rw[cell_of_row _ _ 2 _ _ _ hblk];rfl
        have kd:=(hbz.cell (p:=⟨w.heap.size,0,none⟩) (Zaa hd0)).trans hd0;have HXZ:=Hd (HX.out.below hbz);have HBZ:=Hd (HBX.out.trans (hbz.mono HBX.out.size));rw[<- hwz];clear hwz hbz hblk c0 c1 c2 hd0;go_wp2_with fail;refine(Zom e _ 40 _ (by omega) HXZ.out).mono ?_;rintro y wp ⟨⟨r,rfl,_,_,hr3⟩,hbp⟩;have HBP:=Hd (HBZ.out.trans (hbp.mono HBZ.out.size));have HXP:=Hd (HXZ.out.below hbp);have m0:=(hbp.cell (p:=⟨wy.heap.size,0,none⟩) (Zaa k0)).trans k0;have m1:=(hbp.cell (p:=⟨wy.heap.size,1,none⟩) (Zaa k1)).trans k1;have m2:=(hbp.cell (p:=⟨wy.heap.size,2,none⟩) (Zaa k2)).trans k2;have md:=(hbp.cell (p:=⟨w.heap.size,0,none⟩) (Zaa kd)).trans kd;clear hbp k0 k1 k2 kd
        by_cases hr:(r:Int)>40
        ·
         have HF:=Hd (HNO.out _ HBP.out);go_wp2_with fail;exact HF.out
        have hsz40:e.size<=40:=by have:=hr3 (by omega);omega
        clear hr3;go_wp2_with fail;refine(Zhc e _ _ (by omega) HXP.out).mono ?_;rintro y wq ⟨err,rfl,hiff,hbq⟩;have HBQ:=Hd (HBP.out.trans (hbq.mono HBP.out.size));have HXQ:=Hd (HXP.out.below hbq);have n0:=(hbq.cell (p:=⟨wy.heap.size,0,none⟩) (Zaa m0)).trans m0;have n1:=(hbq.cell (p:=⟨wy.heap.size,1,none⟩) (Zaa m1)).trans m1;have n2:=(hbq.cell (p:=⟨wy.heap.size,2,none⟩) (Zaa m2)).trans m2;have nd:=(hbq.cell (p:=⟨w.heap.size,0,none⟩) (Zaa md)).trans md;have HIF:=Hd hiff;clear hbq m0 m1 m2 md hiff
        by_cases her:err=0
        ·
         have HOK:=Hd (HIF.out.1 her);subst her;go_wp2_with fail;refine(Zm9 e _ _ (by omega) HXQ.out).mono ?_;rintro y ws ⟨u,os,rfl,hsl,hosl,hmem,hbs⟩;obtain⟨au,cu,rfl,hiu,hnu⟩:=hsl;have HBS:=Hd (HBQ.out.trans (hbs.mono HBQ.out.size));have pd:=(hbs.cell (p:=⟨w.heap.size,0,none⟩) (Zaa nd)).trans nd;have HIU:=Hd hiu;have HMEM:=Hd (hmem HOK.out);clear hbs n0 n1 n2 nd hiu hmem HX HXZ HXP HXQ;go_wp2_with fail
         go_loopw [8,80] (fun s8 s80 wt=>∃ i:Nat,i<=os.length/\s80=.int .i64 i/\wt=ws/\Hid (∀ v∈os.take i,v<vars)) (fun _ s80 _=>os.length-(intOf s80).toNat)
         case atStart=>exact⟨0,Nat.zero_le _,rfl,rfl,Hd fun v hv=>by simp at hv⟩
         case round =>
          obtain⟨i,hi,rfl,rfl,HVS⟩:=hrel
          by_cases hlt2:i<os.length
          ·
           obtain⟨b2,of2,rfl,cc⟩:=HIU.out.cells i hlt2;have hiz:(i:Int)<os.length:=by omega
           have HT2:=Hd (Zh1 hlt2);obtain⟨z,hz⟩:∃ z,z=at0 os i:=⟨_,rfl⟩;rw[<- hz] at cc HT2;clear hz
           by_cases hzv:z>=vars
           ·
            have HF:=Hd (HNO.out _ HBS.out);go_wp2_with fail;exact HF.out
           ·
            have HV2:Hid (∀ v∈os.take (i+1),v<vars):=Hd fun v hv=>by
             rcases(HT2.out v).1 hv with h|rfl
             ·
              exact HVS.out v h
             ·
              omega
            go_wp2_with fail;go_roundw
            case rel=>exact⟨i+1,by omega,by go_num,by simp,HV2⟩
            case measure=>simp[intOf];omega
          ·
           have hiz:¬ (i:Int)<os.length:=by omega
           have HB2:Hid (∀ e∈es.take (j+1),e.size<=40/\okT e 1/\∀ v∈Zbe e,v<vars):=Hd fun e' he'=>by
            rcases HTK.out e' he' with h|rfl
            ·
             exact HB.out e' h
            ·
             exact⟨hsz40,HOK.out,fun v hv=>HVS.out v (by rw[List.take_of_length_le (by omega)];exact HMEM.out v hv)⟩
           go_wp2_with fail;go_roundw
           case rel=>exact⟨j+1,by omega,by go_num,HBS.out,HB2⟩
           case measure=>simp[intOf];omega
        ·
         have hne:(err != 0)=true:=by simpa using her
         have HF:=Hd (HNO.out _ HBQ.out);clear her;go_wp2_with fail;exact HF.out
       ·
        have hjz:¬ (j:Int)<es.length:=by omega
        have HF:=Hd (HYES.out ⟨g1,g2,g3,g4,HG5.out,HG6.out,HAF.out,fun e he=>HB.out e (by rw[List.take_of_length_le (by omega)];exact he)⟩ _ hbx);go_wp2_with fail;exact HF.out
end Go.Proofs.YtmofaapnkidioaaGreat

namespace Go.Proofs.YtmofaapnkidioaaGreat
open Go.RowKit Go.Shelf
section
variable {F:Fence} {n:Nat} {P:Program} {α:Type}
def Zx0 (F:Fence) (n d:Nat) (P:Program) (g:Nat) (lb:Array Value) (encs:α->Array Value) (n₀:Nat) (Bx:Nat->Prop) (Good:List α->Prop) (w:World):Prop :=
 ∀ (l:Nat) (J:List α->(Nat->Prop)->World->Prop) (M:Nat->Prop) (W:World),Zqe n₀ J->Minds n₀ J->Wr (fun k=>n₀<=k/\¬ Bx k) w W->(∀ k,Bx k->¬ M k) ->
  (∀ pre x M W1,J pre M W1->(∃ suf,Good (pre++x::suf))->YieldAt F (n-1-d) P l (encs x) W1 fun e W' =>
   e=.returned (.bool true)/\∃ M',J (pre++[x]) M' W'/\Wr M W1 W'/\∀ k,M' k->M k\/W1.heap.size<=k) ->
  J [] M W ->
  CallsIn F n P g (#[.func (.yield l) #[] #[]]++lb) W fun e W'=>(∃ v,e=.returned v)/\∃ xs M',Good xs/\J xs M' W'/\Wr (fun k=>n₀<=k) W W'/\∀ k,M' k->M k\/W.heap.size<=k
theorem Zv4 {g:Operand} {ps:Array Tmp} {assign body:Code} {Q:Exit->Act->World->Prop} {a:Act} {w:World} (hro:F.round=none) (h1:1<=n) {gf:Nat} {lb:Array Value} (hg:a.eval g=.func (.func gf) #[] lb)
 (hFg:F.fn gf) (eg:∀ args w,(callFunc gf args).run P w=.ok (.enter gf args) w) {encs:α->Array Value} {n₀:Nat} {Bx:Nat->Prop} {Good:List α->Prop} {d:Nat} (hseq:Zx0 F (n-1) d P gf lb encs n₀ Bx Good w) (hn0:n₀<=w.heap.size)
 (hBx:∀ k,Bx k->k<w.heap.size) (hps:∀ x,(encs x).size=ps.size) (I:List α->(Nat->Prop)->World->Prop) (hOw:Zqe n₀ I) (hMi:Minds n₀ I) (M0:Nat->Prop) (hM0:∀ k,Bx k->¬ M0 k) (h0:I [] M0 w)
 (Ax:α->Act->World->World->Prop) (hAx:∀ x a' W W1 W2 l,l<W.heap.size->Ax x a' W W1->Wr (· = l) W1 W2->Ax x a' W W2)
 (hassign:∀ (l:Nat) (pre:List α) (x:α) (M:Nat->Prop) (W:World) (K:Act->World->Prop),I pre M W->(∀ a' W',Wr (fun _=>False) W W'->Ax x a' W W'->K a' W') ->
  assign.wpIn (F.inRound l) (n-1-1-d) P (Exit.then K (fun _ _ _=>False)) { tmps:=(ps.zip (encs x)).foldl (fun t (p,v)=>t.setIfInBounds p v) a.tmps,defers:=[] } W)
 (hbody:∀ (l:Nat) (pre:List α) (x:α) (a':Act) (M:Nat->Prop) (W0 W:World),I pre M W->Ax x a' W0 W->W0.heap.size<=W.heap.size->w.heap.size<=W0.heap.size->(∃ suf,Good (pre++x::suf))->body.wpIn (F.inRound l) (n-1-1-d) P
  (fun e _ W'=>match e with|.normal=>∃ M',I (pre++[x]) M' W'/\Wr (fun k=>M k\/W0.heap.size<=k) W W'/\(∀ k,M' k->M k\/W0.heap.size<=k)|_=>False) a' W)
 (hdone:∀ (xs:List α) (D:Nat) (M:Nat->Prop) (W:World),Good xs->w.heap.size<=D->¬ M D->I xs M W->(∀ k,M k->M0 k\/w.heap.size<=k)->Wr (fun k=>n₀<=k) w W->W.heap[D]?=some (.deferred (some []))->Q .normal { a with defers:={ target:=.collected D,args:=#[] }::a.defers } W) :
 (Code.rangeFunc g ps assign body).wpIn F n P Q a w:=by
 refine wpIn_rangeFunc ?_;intro fn hfn;rw[hro]
 let rec0:LoopState->Loop:=fun st=>{ state:=st,pending:=none,fn,tmps:=a.tmps,params:=ps,assign,body,defers:=w.heap.size }
 obtain⟨W1,hW1⟩:∃ W1,W1=(w.alloc (.deferred (some []))).alloc (.loop (rec0 .ready)):=⟨_,rfl⟩;have hL1:W1.heap[w.heap.size+1]?=some (.loop (rec0 .ready)):=by
  rw[hW1];have:=World.alloc_heap_new (w.alloc (.deferred (some []))) (.loop (rec0 .ready))
  rwa [World.size_alloc] at this
 have hD1:W1.heap[w.heap.size]?=some (.deferred (some [])):=by
  rw[hW1];exact(Below.heap_alloc _ _ _ (by simp)).trans (World.alloc_heap_new w _)
 have hw1:∀ N:Nat->Prop,Wr N w W1:=fun N=>by rw[hW1];exact((Wr.refl N w).alloc _).alloc _
 have hM0lt:=hOw [] M0 w h0;have hI1:I [] M0 W1:=hMi _ _ _ _ h0 (hw1 _)
 refine⟨w.heap.size+1,[{ target:=.collected w.heap.size,args:=#[] }],W1,{ target:=.fn (.func gf) lb,args:=#[.func (.yield (w.heap.size+1)) #[] #[]] },W1,gf,
  #[.func (.yield (w.heap.size+1)) #[] #[]]++lb,W1,?_,?_,?_,?_,fun _=>h1,?_⟩
 ·
  rw[hW1];exact run_enterLoop_outer _ _ _ _ _
 ·
  simp only[resolve,hg];simp[go_sem]
 ·
  intro f' hf';simp[Target.leads] at hf';subst hf';exact hFg
 ·
  simp[invoke,go_sem,eg]
 refine(hseq (w.heap.size+1)
  (fun pre N W=>∃ M,I pre M W/\(∀ k,N k↔(M k\/k=w.heap.size+1\/k=w.heap.size))/\¬ M (w.heap.size+1)/\¬ M w.heap.size/\(∀ k,M k->M0 k\/w.heap.size<=k) /\
   W.heap[w.heap.size+1]?=some (.loop (rec0 .ready))/\W.heap[w.heap.size]?=some (.deferred (some [])))
  (fun k=>M0 k\/k=w.heap.size+1\/k=w.heap.size) W1 ?_ ?_ (hw1 _) ?_ ?_ ?_).mono ?_
 ·
  rintro pre N W ⟨M,hi,hN,_,_,_,hl,hd⟩ k hk;rcases(hN k).1 hk with hk|hk|hk
  ·
   exact hOw _ _ _ hi k hk
  ·
   subst hk;exact⟨by omega,(Array.getElem?_eq_some_iff.1 hl).1⟩
  ·
   subst hk;exact⟨hn0,(Array.getElem?_eq_some_iff.1 hd).1⟩
 ·
  rintro pre N W W' ⟨M,hi,hN,h2,h3,h4,hl,hd⟩ hw;refine⟨M,hMi _ _ _ _ hi ?_,hN,h2,h3,h4,?_,?_⟩
  ·
   exact⟨hw.os,hw.tape,hw.output,hw.size,fun k hk hn=>hw.keep k hk (fun⟨a,b⟩=>hn ⟨a,fun e=>b ((hN k).2 (.inl e))⟩)⟩
  ·
   exact(hw.keep _ (Array.getElem?_eq_some_iff.1 hl).1 (fun⟨_,b⟩=>b ((hN _).2 (.inr (.inl rfl))))).trans hl
  ·
   exact(hw.keep _ (Array.getElem?_eq_some_iff.1 hd).1 (fun⟨_,b⟩=>b ((hN _).2 (.inr (.inr rfl))))).trans hd
 ·
  intro k hk hm;have:=hBx k hk;rcases hm with hm|hm|hm
  ·
   exact hM0 k hk hm
  ·
   omega
  ·
   omega
 ·
  rintro pre x N W ⟨M,hi,hN,h2,h3,h4,hl,hd⟩ hsuf;have hlt:w.heap.size+1<W.heap.size:=(Array.getElem?_eq_some_iff.1 hl).1;have hy:=run_yield (P:=P) (args:=encs x) hl (hps x);refine⟨fn,_,assign,body,hy,roundIn_of_wpIn hfn (hassign _ pre x M W _ hi ?_)⟩;intro a' Wa hwa hax;have hla:=(hwa.keep _ hlt (fun h=>h)).trans hl;have hda:=(hwa.keep _ (by omega) (fun h=>h)).trans hd;have hlta:w.heap.size+1<Wa.heap.size:=by have:=hwa.size;omega
  refine⟨_,run_beginRound hla rfl,?_⟩;have hia:I pre M Wa:=hMi _ _ _ _ hi (hwa.mono (fun _ h=>h.elim));have hwb:Wr (· = w.heap.size+1) Wa (Wa.putObj (w.heap.size+1) (.loop { rec0 .ready with state:=.busy })):=(Wr.refl (· = w.heap.size+1) Wa).putObj (l:=w.heap.size+1) (.inl rfl) _;have hib:I pre M (Wa.putObj (w.heap.size+1) (.loop { rec0 .ready with state:=.busy })):=hMi _ _ _ _ hia (hwb.mono (fun k e=>by have e':k=w.heap.size+1:=e;subst e';exact⟨by omega,h2⟩));have hlb:(Wa.putObj (w.heap.size+1) (.loop { rec0 .ready with state:=.busy })).heap[w.heap.size+1]?=some (.loop { rec0 .ready with state:=.busy }):=World.putObj_heap_same hlta;have hdb:(Wa.putObj (w.heap.size+1) (.loop { rec0 .ready with state:=.busy })).heap[w.heap.size]?=some (.deferred (some [])):=(World.putObj_heap_other (by omega)).trans hda;refine wpIn_mono (hbody _ pre x a' M W _ hib (hAx _ _ _ _ _ _ hlt hax hwb) (by simp;exact hwa.size) (by omega) hsuf) ?_;intro e a3 W3 hp;cases e with
  | normal =>
    obtain⟨M',hi3,hw3,hM'⟩:=hp;have hl3:=(hw3.keep _ (by simp;exact hlta) (fun e=>by rcases e with e|e;exact h2 e;omega)).trans hlb;have hd3:=(hw3.keep _ (by simp;omega) (fun e=>by rcases e with e|e;exact h3 e;omega)).trans hdb;have hlt3:=(Array.getElem?_eq_some_iff.1 hl3).1;have hm2:¬ M' (w.heap.size+1):=fun e=>by rcases hM' _ e with h|h;exact h2 h;omega
    have hm3:¬ M' w.heap.size:=fun e=>by rcases hM' _ e with h|h;exact h3 h;omega
    refine⟨_,_,run_endRound (P:=P) none hl3,rfl,fun k=>M' k\/k=w.heap.size+1\/k=w.heap.size,⟨M',?_,fun k=>Iff.rfl,hm2,hm3,?_,World.putObj_heap_same hlt3,(World.putObj_heap_other (by omega)).trans hd3⟩,?_,?_⟩
    ·
     exact hMi _ _ _ _ hi3 ((Wr.refl _ _).putObj (.inl ⟨by omega,hm2⟩) _)
    ·
     intro k hk;rcases hM' k hk with h|h
     ·
      exact h4 k h
     ·
      right;omega
    ·
     refine((((hwa.mono (N:=N) (fun _ h=>h.elim)).putObj (l:=w.heap.size+1) (.inl ((hN _).2 (.inr (.inl rfl)))) _).trans (N:=N) hw3 (fun k _ h=>h) (fun k hk h=>?_)).putObj (l:=w.heap.size+1) (.inl ((hN _).2 (.inr (.inl rfl)))) _);rcases h with h|h
     ·
      exact(hN k).2 (.inl h)
     ·
      omega
    ·
     rintro k (hk|hk)
     ·
      rcases hM' k hk with h|h
      ·
       exact .inl ((hN k).2 (.inl h))
      ·
       exact .inr h
     ·
      exact .inl ((hN k).2 (.inr hk))
  | ret=>exact hp.elim
  | exit id=>exact hp.elim
  | goto t=>exact hp.elim
  | panic ch=>exact hp.elim
  | outgrown=>exact hp.elim
 ·
  exact⟨M0,hI1,fun k=>Iff.rfl,fun e=>by have:=(hM0lt _ e).2;omega,fun e=>by have:=(hM0lt _ e).2;omega,fun k h=>.inl h,hL1,hD1⟩
 ·
  rintro e W2 ⟨⟨v,rfl⟩,xs,N,hgood,⟨M,hi,hN,h2,h3,h4,hl,hd⟩,hw2,_⟩;refine⟨none,_,run_endLoop (P:=P) hl (by simp[rec0]),hdone xs _ M _ hgood (Nat.le_refl _) h3 ?_ h4 ?_ ((World.putObj_heap_other (by omega)).trans hd)⟩
  ·
   exact hMi _ _ _ _ hi ((Wr.refl _ _).putObj (.inl ⟨by omega,h2⟩) _)
  ·
   exact((hw1 (fun k=>n₀<=k)).trans hw2 (fun _ _ h=>h) (fun _ _ h=>h)).putObj (.inl (by omega)) _
end
end Go.Proofs.YtmofaapnkidioaaGreat

namespace Go.Proofs.YtmofaapnkidioaaGreat
open Go.RowKit Go.Shelf
open Go.ChangeMaps (setBlock)
def Zdk (q:Nat×Nat):List Value:=[.int .i64 q.1,.int .i64 q.2]
theorem Zjb {α β:Type} {f:α->β} {l:List α} (h:(l.map f).Nodup):l.Nodup:=(List.pairwise_map.1 h).imp fun hne e=>hne (congrArg f e)
def Zzz:Value->Nat
 | .int _ n=>n.toNat
 | _=>0
def unE:Value->Nat×Nat
 | .agg cs=>(Zzz (cs.getD 0 undef),Zzz (cs.getD 1 undef))
 | _=>(0,0)
theorem Zzy (q:Nat×Nat):unE (encE q)=q:=by simp[unE,encE,Zzz]
structure Zjw (es:Array MapEntry) (clock:Nat) (seen:Array Nat) (ks:List (Nat×Nat)) (sl:List MapEntry):Prop where
 sub:∀ e∈sl,e∈es.toList
 born:sl.map (·.born)=seen.toList
 nodup:(sl.map (·.born)).Nodup
 keys:sl.map (·.key)=ks.map encE
theorem Zjw.start (es:Array MapEntry) (clock:Nat):Zjw es clock #[] [] []:=⟨fun _ h=>(by cases h),rfl,List.nodup_nil,rfl⟩
theorem Zjw.next {es:Array MapEntry} {clock:Nat} {seen:Array Nat} {ks:List (Nat×Nat)} {sl:List MapEntry} (h:Zjw es clock seen ks sl) {e:MapEntry} (he:e∈(leftOf es seen).toList) {q:Nat×Nat} (hq:e.key=encE q):Zjw es clock (seen.push e.born) (ks++[q]) (sl++[e]):=by
 obtain⟨h1,h2⟩:=mem_left he;refine⟨fun x hx=>?_,by simp[h.born],?_,by simp[h.keys,hq]⟩
 ·
  rcases List.mem_append.1 hx with hx|hx
  ·
   exact h.sub x hx
  ·
   simp at hx;subst hx;exact h1
 ·
  rw[List.map_append,List.nodup_append];refine⟨h.nodup,by simp,fun a ha b hb=>?_⟩;simp at hb;subst hb;rintro rfl;rw[h.born] at ha;have:seen.contains e.born=true:=by simpa using ha
  rw[this] at h2;cases h2
theorem Zjw.all {es:Array MapEntry} {clock:Nat} {seen:Array Nat} {ks:List (Nat×Nat)} {sl:List MapEntry} (h:Zjw es clock seen ks sl) (hn:(es.toList.map (·.born)).Nodup) (h0:(leftOf es seen).size=0):sl.Perm es.toList:=by
 have hall:=all_seen es seen h0;refine(List.perm_ext_iff_of_nodup (Zjb h.nodup) (Zjb hn)).2 fun e=>⟨h.sub e,fun he=>?_⟩
 have h1:=hall e he;have h2:e.born∈sl.map (·.born):=by rw[h.born];simpa using h1
 obtain⟨x,hx,e1⟩:=List.mem_map.1 h2;have:x=e:=born_inj hn (h.sub x hx) he e1;rw[<- this];exact hx
theorem Zjw.keysOf {w:World} {b:Nat} {l:List ((Nat×Nat)×Value)} {es:Array MapEntry} {clock:Nat} {seen:Array Nat} {ks:List (Nat×Nat)} {sl:List MapEntry} (h:Zjw es clock seen ks sl) (hn:(es.toList.map (·.born)).Nodup) (h0:(leftOf es seen).size=0)
 (hl:es.toList.map (fun e=>(e.key,e.val))=l.map (fun p=>(encE p.1,p.2))):ks.Perm (l.map Prod.fst):=by
 have h1:(ks.map encE).Perm ((l.map Prod.fst).map encE):=by
  rw[<- h.keys];have h2:=(h.all hn h0).map (fun e:MapEntry=>e.key);refine h2.trans ?_;have h3:=congrArg (List.map Prod.fst) hl;simp only[List.map_map] at h3;have e1:(es.toList.map fun e:MapEntry=>e.key)=(l.map Prod.fst).map encE:=by
   rw[List.map_map];exact h3
  rw[e1]
 have h2:=h1.map unE;simpa [List.map_map,Function.comp_def,Zzy] using h2
theorem Zzc:(Tryz.prog.info? 230).map (fun i=>(i.zero,i.size,i.bytes))=some (some (.agg #[.int .i64 0,.int .i64 0]),2,16):=by kernel_rfl
structure KeyS (W0:World) (mb r clock:Nat) (es:Array MapEntry) (seen:Array Nat) (ks:List (Nat×Nat)) (sl:List MapEntry) (v:Value) (oG:Own) (wr:World):Prop where
 low:Below W0.heap.size W0 wr
 it:wr.heap[r]?=some (.mapIter (some mb) clock seen clock)
 came:Zjw es clock seen ks sl
 row:RowR oG wr .slots 230 2 v ks.length (ks.flatMap Zdk)
 lt:Zak oG wr
 ge:∀ k q,oG k=some q->q=.slots/\W0.heap.size<=k
 no:oG r=none
 cnt:ks.length+(leftOf es seen).size<=es.size
theorem KeyS.next {W0:World} {mb r clock:Nat} {es:Array MapEntry} {seen:Array Nat} {ks:List (Nat×Nat)} {sl:List MapEntry} {v v':Value} {oG o1:Own} {wr w1 w2 w3 w4:World} (h:KeyS W0 mb r clock es seen ks sl v oG wr) (hr0:W0.heap.size<=r) {e:MapEntry} (he:e∈(leftOf es seen).toList) {q:Nat×Nat} (hq:e.key=encE q)
 (hw1:w1=wr\/w1=wr.drew) (hw2:w2=setBlock w1 r (.mapIter (some mb) clock (seen.push e.born) clock)) (hb3:Below w2.heap.size w2 w3)
 (hr:RowR o1 w4 .slots 230 2 v' (ks.length+1) (ks.flatMap Zdk++Zdk q)) (hc:Chg (· = .slots) oG o1 w3 w4) (hl:Zak o1 w4) :
 KeyS W0 mb r clock es (seen.push e.born) (ks++[q]) (sl++[e]) v' o1 w4:=by
 have hrl:r<wr.heap.size:=(Array.getElem?_eq_some_iff.1 h.it).1;have z2:w2.heap.size=wr.heap.size:=by rw[hw2];rcases hw1 with rfl|rfl<;>simp[setBlock]
 have i2:w2.heap[r]?=some (.mapIter (some mb) clock (seen.push e.born) clock):=by rw[hw2];rcases hw1 with rfl|rfl<;>simp[setBlock,hrl]
 have k2:∀ g,g≠r->w2.heap[g]?=wr.heap[g]?:=fun g hg=>by
  rw[hw2];rcases hw1 with rfl|rfl<;>simp[setBlock,Array.getElem?_setIfInBounds,Ne.symm hg]<;>rfl
 have b2:Below W0.heap.size W0 w2:=h.low.trans ⟨by rw[hw2];rcases hw1 with rfl|rfl<;>rfl,by rw[hw2];rcases hw1 with rfl|rfl<;>rfl,by rw[hw2];rcases hw1 with rfl|rfl<;>rfl,by omega,fun g hg=>k2 g (by omega)⟩;have nn:∀ g,g<W0.heap.size->oG g=none:=fun g hg=>by
  cases eo:oG g with
  | none=>rfl
  | some r=>have:=(h.ge g r eo).2;omega
 have s0:=h.low.size;have b3:=b2.trans (hb3.mono (by omega));refine⟨b3.trans ⟨hc.os,hc.tape,hc.output,hc.size,fun g hg=>hc.alien (by have:=b3.size;omega) (nn g hg)⟩,?_,h.came.next he hq,by simpa using hr,hl,fun g q hg=>?_,hc.alien' (by have:=hb3.size;omega) h.no,by have h1:=left_shrinks es seen e he;have h2:=h.cnt;simp;omega⟩
 ·
  rw[hc.alien (by have:=hb3.size;omega) h.no,hb3.block r (by omega)];exact i2
 ·
  by_cases eo:o1 g=oG g
  ·
   rw[eo] at hg;exact h.ge g q hg
  ·
   obtain⟨a1,p,a2,a3⟩:=hc.new g eo;rw[hg] at a2;cases a2
   have:=hb3.size;exact⟨a3,by omega⟩
theorem KeyS.row3 {W0:World} {mb r clock:Nat} {es:Array MapEntry} {seen:Array Nat} {ks:List (Nat×Nat)} {sl:List MapEntry} {v:Value} {oG:Own} {wr w1 w2 w3:World} (h:KeyS W0 mb r clock es seen ks sl v oG wr) {x:Obj} (hw1:w1=wr\/w1=wr.drew) (hw2:w2=setBlock w1 r x) (hb3:Below w2.heap.size w2 w3) :
 RowR oG w3 .slots 230 2 v ks.length (ks.flatMap Zdk)/\Zak oG w3:=by
 have z2:w2.heap.size=wr.heap.size:=by rw[hw2];rcases hw1 with rfl|rfl<;>simp[setBlock]
 have k2:∀ g,g≠r->w2.heap[g]?=wr.heap[g]?:=fun g hg=>by
  rw[hw2];rcases hw1 with rfl|rfl<;>simp[setBlock,Array.getElem?_setIfInBounds,Ne.symm hg]<;>rfl
 refine⟨h.row.keep (fun g hg=>?_) (fun _ h=>h),h.lt.mono (by have:=hb3.size;omega)⟩;have h1:=h.lt g _ hg;rw[hb3.block g (by omega)];exact k2 g (by rintro rfl;rw[h.no] at hg;cases hg)
end Go.Proofs.YtmofaapnkidioaaGreat

namespace Go.Proofs
open Go.Shelf
def Tryz.sortKeys_ren:Go.Shelf.Ren:=⟨fun|6=>239|15=>246|14=>245|28=>257|29=>258|20=>249|21=>250|22=>251|23=>252|24=>253|25=>254|26=>255|27=>256|46=>259|47=>260|48=>261|49=>262|50=>263|57=>264|n=>n,fun|22=>264|24=>230|25=>276|3=>3|39=>256|0=>0|53=>287|55=>138|4=>4|46=>281|45=>280|50=>109|5=>5|9=>9|66=>289|70=>293|76=>295|77=>88|n=>n,fun|n=>n⟩
theorem Tryz.sortKeys:Go.Proofs.SlLaysF0.n6 Tryz.prog Tryz.sortKeys_ren:={
 mixed:=by kernel_rfl
 f6:=⟨Tryz.f239.name,by decide,Tryz.func239.trans (congrArg some (by kernel_rfl))⟩
 f14:=⟨Tryz.f245.name,by decide,Tryz.func245.trans (congrArg some (by kernel_rfl))⟩
 f15:=Tryz.func246.trans (congrArg some (by kernel_rfl))
 f20:=⟨Tryz.f249.name,by decide,Tryz.func249.trans (congrArg some (by kernel_rfl))⟩
 f21:=⟨Tryz.f250.name,by decide,Tryz.func250.trans (congrArg some (by kernel_rfl))⟩
 f22:=⟨Tryz.f251.name,by decide,Tryz.func251.trans (congrArg some (by kernel_rfl))⟩
 f23:=⟨Tryz.f252.name,by decide,Tryz.func252.trans (congrArg some (by kernel_rfl))⟩
 f24:=⟨Tryz.f253.name,by decide,Tryz.func253.trans (congrArg some (by kernel_rfl))⟩
 f25:=⟨Tryz.f254.name,by decide,Tryz.func254.trans (congrArg some (by kernel_rfl))⟩
 f26:=⟨Tryz.f255.name,by decide,Tryz.func255.trans (congrArg some (by kernel_rfl))⟩
 f27:=⟨Tryz.f256.name,by decide,Tryz.func256.trans (congrArg some (by kernel_rfl))⟩
 f28:=Tryz.func257.trans (congrArg some (by kernel_rfl))
 f29:=Tryz.func258.trans (congrArg some (by kernel_rfl))
 f46:=⟨Tryz.f259.name,by decide,Tryz.func259.trans (congrArg some (by kernel_rfl))⟩
 f47:=Tryz.func260.trans (congrArg some (by kernel_rfl))
 f48:=Tryz.func261.trans (congrArg some (by kernel_rfl))
 f49:=⟨Tryz.f262.name,by decide,Tryz.func262.trans (congrArg some (by kernel_rfl))⟩
 f50:=⟨Tryz.f263.name,by decide,Tryz.func263.trans (congrArg some (by kernel_rfl))⟩
 f57:=⟨Tryz.f264.name,by decide,Tryz.func264.trans (congrArg some (by kernel_rfl))⟩
 t0:=Tryz.underlying0
 a0:=Tryz.isAgg0
 z0:=Tryz.sizeOf0
 v0:=Tryz.zeroValue0
 t3:=Tryz.underlying3
 a3:=Tryz.isAgg3
 z3:=Tryz.sizeOf3
 v3:=Tryz.zeroValue3
 t4:=Tryz.underlying4
 a4:=Tryz.isAgg4
 z4:=Tryz.sizeOf4
 v4:=Tryz.zeroValue4
 t5:=Tryz.underlying5
 a5:=Tryz.isAgg5
 z5:=Tryz.sizeOf5
 v5:=Tryz.zeroValue5
 t9:=Tryz.underlying9
 a9:=Tryz.isAgg9
 z9:=Tryz.sizeOf9
 v9:=Tryz.zeroValue9
 t22:=Tryz.underlying264
 a22:=Tryz.isAgg264
 z22:=Tryz.sizeOf264
 v22:=Tryz.zeroValue264
 t25:=Tryz.underlying276
 a25:=Tryz.isAgg276
 z25:=Tryz.sizeOf276
 v25:=Tryz.zeroValue276
 t39:=Tryz.underlying256
 a39:=Tryz.isAgg256
 z39:=Tryz.sizeOf256
 v39:=Tryz.zeroValue256
 t45:=Tryz.underlying280
 a45:=Tryz.isAgg280
 z45:=Tryz.sizeOf280
 v45:=Tryz.zeroValue280
 t46:=Tryz.underlying281
 a46:=Tryz.isAgg281
 z46:=Tryz.sizeOf281
 v46:=Tryz.zeroValue281
 t50:=Tryz.underlying109
 a50:=Tryz.isAgg109
 z50:=Tryz.sizeOf109
 v50:=Tryz.zeroValue109
 t53:=Tryz.underlying287
 a53:=Tryz.isAgg287
 z53:=Tryz.sizeOf287
 v53:=Tryz.zeroValue287
 t55:=Tryz.underlying138
 a55:=Tryz.isAgg138
 z55:=Tryz.sizeOf138
 v55:=Tryz.zeroValue138
 t66:=Tryz.underlying289
 a66:=Tryz.isAgg289
 z66:=Tryz.sizeOf289
 v66:=Tryz.zeroValue289
 t70:=Tryz.underlying293
 a70:=Tryz.isAgg293
 z70:=Tryz.sizeOf293
 v70:=Tryz.zeroValue293
 t76:=Tryz.underlying295
 a76:=Tryz.isAgg295
 z76:=Tryz.sizeOf295
 v76:=Tryz.zeroValue295
 t77:=Tryz.underlying88
 a77:=Tryz.isAgg88
 z77:=Tryz.sizeOf88
 v77:=Tryz.zeroValue88 }
def Tryz.cmpInt_ren:Go.Shelf.Ren:=⟨fun|5=>242|7=>247|n=>n,fun|22=>3|3=>3|4=>4|n=>n,fun|n=>n⟩
theorem Tryz.cmpInt:Go.Proofs.SlLaysC2.n5 Tryz.prog Tryz.cmpInt_ren:={
 mixed:=by kernel_rfl
 f5:=⟨Tryz.f242.name,by decide,Tryz.func242.trans (congrArg some (by kernel_rfl))⟩
 f7:=⟨Tryz.f247.name,by decide,Tryz.func247.trans (congrArg some (by kernel_rfl))⟩
 t3:=Tryz.underlying3
 a3:=Tryz.isAgg3
 z3:=Tryz.sizeOf3
 v3:=Tryz.zeroValue3
 t4:=Tryz.underlying4
 a4:=Tryz.isAgg4
 z4:=Tryz.sizeOf4
 v4:=Tryz.zeroValue4
 t22:=Tryz.underlying3
 a22:=Tryz.isAgg3
 z22:=Tryz.sizeOf3
 v22:=Tryz.zeroValue3 }
def Tryz.cmpEdge_ren:Go.Shelf.Ren:=⟨fun|5=>243|7=>248|n=>n,fun|22=>116|3=>3|4=>4|n=>n,fun|n=>n⟩
theorem Tryz.cmpEdge:Go.Proofs.SlLaysC2.n5 Tryz.prog Tryz.cmpEdge_ren:={
 mixed:=by kernel_rfl
 f5:=⟨Tryz.f243.name,by decide,Tryz.func243.trans (congrArg some (by kernel_rfl))⟩
 f7:=⟨Tryz.f248.name,by decide,Tryz.func248.trans (congrArg some (by kernel_rfl))⟩
 t3:=Tryz.underlying3
 a3:=Tryz.isAgg3
 z3:=Tryz.sizeOf3
 v3:=Tryz.zeroValue3
 t4:=Tryz.underlying4
 a4:=Tryz.isAgg4
 z4:=Tryz.sizeOf4
 v4:=Tryz.zeroValue4
 t22:=Tryz.underlying116
 a22:=Tryz.isAgg116
 z22:=Tryz.sizeOf116
 v22:=Tryz.zeroValue116 }
end Go.Proofs
