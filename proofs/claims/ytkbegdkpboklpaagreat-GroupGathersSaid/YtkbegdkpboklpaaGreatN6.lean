/- Several texts in one file: contracts of the program's functions and what follows from them. -/
import Derived.Test.YtkbegdkpboklpaaGreatN5
import Derived.Sort.CutIn
import Derived.Shelf.Slices.Reverse
import Derived.Ground.Names2Prog
import Derived.Shelf.Slices.Cells
import Derived.Shelf.Slices.Empties
set_option linter.unusedSimpArgs false
set_option linter.unusedVariables false
set_option linter.unusedSectionVars false
set_option linter.unnecessarySimpa false
set_option maxRecDepth 100000
set_option maxHeartbeats 8000000
namespace Go.Proofs.YtkbegdkpboklpaaGreat
open Go.Proofs.Tryz
open Go.RowKit Go.Shelf
attribute [local go_sem] Oper.semAt_some
theorem Zrn (t:Nat)(w:World):Calls prog 236 #[.pointer (some ⟨t,0,none⟩)] w fun e w'=>e=.returned (.func (.func 246) #[] #[.pointer (some ⟨w.heap.size,0,none⟩)])/\w'=w.alloc (.cells #[.pointer (some ⟨t,0,none⟩)] 217):=by
 have g0:∀ (fn:Fn) (first cap:Array Value) (w:World),(Instr.makeFunc fn first cap).run prog w=.ok (.func fn first cap) w:=fun _ _ _ _=>rfl
 go_enter func236,ntmps236
 go_wp2_with fail;go_ret;exact⟨rfl,rfl⟩
def Ze5 (d:Zag)(y:Nat)(pre:List ((Nat×Nat)×Nat)):List TN:=(pre.filter (fun p=>Zfg d y p.2)).map (fun p=>tnOf d y p.2)
structure TurS (d:Zag)(y:Nat)(w:World)(sb:Nat)(pre:List ((Nat×Nat)×Nat))(M:Nat->Prop)(W:World)(v:Value)(oG:Own):Prop where
 mm:∀ k,M k↔(k=w.heap.size\/k=w.heap.size+1\/k=w.heap.size+2\/oG k=some .slots)
 low:Below w.heap.size w W
 boxs:W.heap[w.heap.size]?=some (.cells #[.pointer (some ⟨sb,0,none⟩)] 129 (0,0))
 boxy:W.heap[w.heap.size+1]?=some (.cells #[.int .i64 y] 3 (0,0))
 boxg:W.heap[w.heap.size+2]?=some (.cells #[v] 274 (0,0))
 row:RowR oG W .slots 279 9 v (Ze5 d y pre).length ((Ze5 d y pre).flatMap tnV)
 lt:Zal oG W
 ge:∀ k r,oG k=some r->r=.slots/\w.heap.size+3<=k
theorem TurS.no {d:Zag}{y:Nat}{w:World}{sb:Nat}{pre:List ((Nat×Nat)×Nat)}{M:Nat->Prop}{W:World}{v:Value}{oG:Own}(h:TurS d y w sb pre M W v oG)(k:Nat)(hk:k<w.heap.size+3):oG k=none:=by
 cases e:oG k with
 | none=>rfl
 | some r=>have:=(h.ge k r e).2;omega
theorem TurS.minds {d:Zag}{y:Nat}{w:World}{sb:Nat}{pre:List ((Nat×Nat)×Nat)}{M:Nat->Prop}{W W':World}{v:Value}{oG:Own}(h:TurS d y w sb pre M W v oG)(hw:Wr (fun k=>w.heap.size<=k/\¬ M k) W W'):TurS d y w sb pre M W' v oG:=by
 have hk:∀ k,k<W.heap.size->M k->W'.heap[k]?=W.heap[k]?:=fun k h1 h2=>hw.keep k h1 (fun e=>e.2 h2)
 have hm:=h.mm
 refine⟨hm,h.low.trans (hw.below (fun k h=>h.1) h.low.size),(hk _ (Array.getElem?_eq_some_iff.1 h.boxs).1 ((hm _).2 (.inl rfl))).trans h.boxs,(hk _ (Array.getElem?_eq_some_iff.1 h.boxy).1 ((hm _).2 (.inr (.inl rfl)))).trans h.boxy,
  (hk _ (Array.getElem?_eq_some_iff.1 h.boxg).1 ((hm _).2 (.inr (.inr (.inl rfl))))).trans h.boxg,h.row.keep (fun g hg=>hk g (h.lt g _ hg) ((hm g).2 (.inr (.inr (.inr hg))))) (fun _ h=>h),h.lt.mono hw.size,h.ge⟩
theorem Zyz {d:Zag}{y:Nat}{pre:List ((Nat×Nat)×Nat)}{p:(Nat×Nat)×Nat}(h:Zfg d y p.2=false):Ze5 d y (pre++[p])=Ze5 d y pre:=by unfold Ze5;rw[List.filter_append];simp[h]
theorem Zxf {d:Zag}{y:Nat}{pre:List ((Nat×Nat)×Nat)}{p:(Nat×Nat)×Nat}(h:Zfg d y p.2=true):Ze5 d y (pre++[p])=Ze5 d y pre++[tnOf d y p.2]:=by unfold Ze5;rw[List.filter_append];simp[h]
theorem TurS.skip {d:Zag}{y:Nat}{w:World}{sb:Nat}{pre:List ((Nat×Nat)×Nat)}{M:Nat->Prop}{W:World}{v:Value}{oG:Own}{p:(Nat×Nat)×Nat}(h:TurS d y w sb pre M W v oG)(hp:Zfg d y p.2=false):TurS d y w sb (pre++[p]) M W v oG :=
 ⟨h.mm,h.low,h.boxs,h.boxy,h.boxg,by rw[Zyz hp];exact h.row,h.lt,h.ge⟩
theorem TurS.add {d:Zag}{y:Nat}{w:World}{sb:Nat}{pre:List ((Nat×Nat)×Nat)}{M:Nat->Prop}{W W1:World}{v v':Value}{oG oG':Own}{p:(Nat×Nat)×Nat}(h:TurS d y w sb pre M W v oG)(hp:Zfg d y p.2=true)
 (hr:RowR oG' W1 .slots 279 9 v' ((Ze5 d y pre).length+1) (((Ze5 d y pre).flatMap tnV)++tnV (tnOf d y p.2))) (hg:Chg (· = .slots) oG oG' W W1) (hl:Zal oG' W1) {n:Nat} (hn:n<=W.heap.size) :
 ∃ M',(∃ v oG,TurS d y w sb (pre++[p]) M' (W1.setCell ⟨w.heap.size+2,0,none⟩ v') v oG)/\Wr (fun k=>M k\/n<=k) W (W1.setCell ⟨w.heap.size+2,0,none⟩ v')/\∀ k,M' k->M k\/n<=k:=by
 have g0:w.heap.size+2<W.heap.size:=(Array.getElem?_eq_some_iff.1 h.boxg).1;have k0:=(hg.alien (by omega) (h.no w.heap.size (by omega))).trans h.boxs;have ky:=(hg.alien (by omega) (h.no (w.heap.size+1) (by omega))).trans h.boxy;have k1:=(hg.alien g0 (h.no (w.heap.size+2) (by omega))).trans h.boxg;have ge':∀ k r,oG' k=some r->r=.slots/\w.heap.size+3<=k:=fun k r hk=>by
  by_cases e:oG' k=oG k
  . rw[e] at hk;exact h.ge k r hk
  .
   obtain⟨a1,q,a2,a3⟩:=hg.new k e;rw[hk] at a2;cases a2
   exact⟨a3,by omega⟩
 refine⟨fun k=>k=w.heap.size\/k=w.heap.size+1\/k=w.heap.size+2\/oG' k=some .slots,⟨v',oG',⟨fun k=>Iff.rfl,?_,?_,?_,Zah k1 _,?_,hl.mono (by simp[World.setCell]),ge'⟩⟩,?_,fun k hk=>?_⟩
 . have:Below w.heap.size w W1:=h.low.trans ⟨hg.os,hg.tape,hg.output,hg.size,fun k hk=>hg.alien (Nat.lt_of_lt_of_le hk h.low.size) (h.no k (by omega))⟩;exact this.setCell (p:=⟨w.heap.size+2,0,Option.none⟩) (by show _<=w.heap.size+2;omega) _
 . exact(Zai (by show _≠w.heap.size+2;omega) _).trans k0
 . exact(Zai (by show _≠w.heap.size+2;omega) _).trans ky
 . rw[Zxf hp,List.length_append,List.flatMap_append];simp only[List.length_singleton,List.flatMap_cons,List.flatMap_nil,List.append_nil];exact hr.setCell_other (fun e=>by have:=(ge' _ _ e).2;simp at this) _
 . have:Wr (fun k=>M k\/n<=k) W W1:=⟨hg.os,hg.tape,hg.output,hg.size,fun k hk hm=>hg.block k hk fun r hr e=>hm (.inl ((h.mm k).2 (.inr (.inr (.inr (by rw[hr,e]))))))⟩;exact this.setCell (p:=⟨w.heap.size+2,0,Option.none⟩) (.inl (.inl ((h.mm _).2 (.inr (.inr (.inl rfl)))))) _
 .
  rcases hk with hk|hk|hk|hk
  . exact .inl ((h.mm k).2 (.inl hk))
  . exact .inl ((h.mm k).2 (.inr (.inl hk)))
  . exact .inl ((h.mm k).2 (.inr (.inr (.inl hk))))
  .
   by_cases e:oG' k=oG k
   . rw[e] at hk;exact .inl ((h.mm k).2 (.inr (.inr (.inr hk))))
   . have:=(hg.new k e).1;right;omega
theorem Zzs {d:Zag}{x:Nat}(ht:∀ lo hi id,d.tab x (lo,hi)=some id->Zab d id=some ⟨x,lo,hi⟩){n:Nat}(hlt:∀ i b,Zab d i=some b->i<n){xs:List ((Nat×Nat)×Nat)}(hnd:(xs.map Prod.fst).Nodup)(hf:∀ k id,(k,id)∈xs->d.tab x k=some id):xs.length<=n:=by
 have h1:(xs.map Prod.snd).Nodup:=by
  rw[List.nodup_iff_pairwise_ne,List.pairwise_map];rw[List.nodup_iff_pairwise_ne,List.pairwise_map] at hnd;refine hnd.imp_of_mem fun {a b} ha hb g0 e=>g0 ?_
  have q1:=ht _ _ _ (hf a.1 a.2 ha);have q2:=ht _ _ _ (hf b.1 b.2 hb);rw[e,q2] at q1;cases a;cases b
  simp at q1;exact Prod.ext q1.1.symm q1.2.symm
 have h2:=Zis n (xs.map Prod.snd) h1 (fun i hi=>by
  obtain⟨q,hq,rfl⟩:=List.mem_map.1 hi;exact hlt _ _ (ht _ _ _ (hf q.1 q.2 hq)))
 simpa using h2
theorem Zmm:(prog.info? 279).map (fun i=>(i.zero,i.size,i.bytes))=some (some (.agg #[.int .i64 0,.int .i64 0,.int .i64 0,.int .i64 0,.int .i64 0,.int .i64 0,.int .i64 0,.int .i64 0,.int .i64 0]),9,72):=by kernel_rfl
theorem Zxe (N:RN)(ll lh hl hh:Nat):tnV ⟨N,ll,lh,hl,hh⟩=[.int .i64 N.id,.int .i64 N.v,.int .i64 N.lo,.int .i64 N.hi,.int .i64 N.refs,.int .i64 ll,.int .i64 lh,.int .i64 hl,.int .i64 hh]:=rfl
theorem Zy0 {o:Own}{w:World}{sb:Nat}{d:Zag}{V:Nat->BF}(h:Zax o w sb d)(hlt:Zal o w)(hk:Zaq d V)(x y:Nat)(hx:x<d.vars.length) :
 Calls prog 213 #[.pointer (some ⟨sb,0,none⟩),.int .i64 x,.int .i64 y] w fun e w'=>∃ (v:Value) (ids:List Nat),e=.returned v/\ids.Nodup/\(∀ i,i∈ids↔Turns (Zab d) x y i)/\TRow w' w.heap.size v (ids.map (tnOf d y))/\Below w.heap.size w w':=by
 obtain⟨s,h⟩:=h;obtain⟨gt,ct,hE,gF,hF,hG⟩:=h.tabAt hx;obtain⟨c0,c1,c2,c3,c4,f0⟩:=cells5 h.blk;rw[hE] at c2;obtain⟨t,ht⟩:∃ t,t=s.ts.getD x 0:=⟨_,rfl⟩;rw[<- ht] at gF;have gv:=h.tab x hF;rw[<- ht] at gv;have hz:=Hd gv;have gr:=Hd h;have gu:=Hd hlt;have HK:=Hd hk;clear ht gv;have k3:(x:Int)<s.ts.length:=by omega
 obtain⟨w1,gC⟩:∃ w1,w1=((w.alloc (.cells #[.pointer (some ⟨sb,0,none⟩)] 129)).alloc (.cells #[.int .i64 y] 3)).alloc (.cells #[.slice none 0 0] 274):=⟨_,rfl⟩;have HW1:Hid (_=w1):=Hd gC.symm;have gq:Below w.heap.size w w1:=by rw[gC];exact((Zad _ _).alloc (by simp) _).alloc (by simp;omega) _
 have c2':=(gq.cell (p:=⟨sb,2,none⟩) (Zaa c2)).trans c2;have hu:=(gq.cell (p:=⟨gt,x,none⟩) (Zaa gF)).trans gF;have cB:w1.cell? ⟨w.heap.size,0,none⟩=some (.pointer (some ⟨sb,0,none⟩)):=by rw[gC];exact cell1 ((Below.heap_alloc _ _ _ (by simp;omega)).trans ((Below.heap_alloc _ _ _ (by simp)).trans (heap_alloc_new w _)))
 have HE:=Hd (fun t W=>Zrn t W);clear c0 c1 c2 c3 c4 f0 gF gC;refine(callsIn_wide (n:=9)).1 ?_;refine callsIn_of_wp_marks func213 rfl trivial ?_;refine wpIn_wide.2 ?_;simp only[ntmps213,List.size_toArray,List.length_cons,List.length_nil,Nat.reduceAdd,Nat.reduceSub,Array.replicate_succ,Array.replicate_zero,List.push_toArray,List.append_toArray,List.nil_append,List.cons_append];go_upto_region 2 with fail;rw[HW1.out];go_wp2_with fail;refine(HE.out _ _).mono ?_;rintro e w2 ⟨rfl,hC⟩;go_wp2_with fail;obtain⟨w2',g3⟩:∃ w2',w2'=w1.alloc (.cells #[.pointer (some ⟨t,0,none⟩)] 217):=⟨_,rfl⟩;rw[<- g3];have h5:Below w.heap.size w w2':=by rw[g3];exact gq.alloc gq.size _
 have hs1:w1.heap.size=w.heap.size+3:=by rw[<- HW1.out];simp
 have k9:w2'.heap.size=w.heap.size+4:=by rw[g3];simp[hs1]
 have hQ:w2'.heap[w.heap.size]?=some (.cells #[.pointer (some ⟨sb,0,none⟩)] 129 (0,0)):=by rw[g3,<- HW1.out];exact(Below.heap_alloc _ _ _ (by simp<;>omega)).trans ((Below.heap_alloc _ _ _ (by simp<;>omega)).trans ((Below.heap_alloc _ _ _ (by simp)).trans (heap_alloc_new w _)))
 have hP:w2'.heap[w.heap.size+1]?=some (.cells #[.int .i64 y] 3 (0,0)):=by
  rw[g3,<- HW1.out];have h0:=heap_alloc_new (w.alloc (.cells #[.pointer (some ⟨sb,0,none⟩)] 129)) (.cells #[.int .i64 y] 3);rw[World.size_alloc] at h0;exact(Below.heap_alloc _ _ _ (by simp<;>omega)).trans ((Below.heap_alloc _ _ _ (by simp)).trans h0)
 have hR:w2'.heap[w.heap.size+2]?=some (.cells #[.slice none 0 0] 274 (0,0)):=by
  rw[g3,<- HW1.out];have h0:=heap_alloc_new ((w.alloc (.cells #[.pointer (some ⟨sb,0,none⟩)] 129)).alloc (.cells #[.int .i64 y] 3)) (.cells #[.slice none 0 0] 274);rw[World.size_alloc,World.size_alloc] at h0;exact(Below.heap_alloc _ _ _ (by simp)).trans h0
 have h6:w2'.cell? ⟨w1.heap.size,0,none⟩=some (.pointer (some ⟨t,0,none⟩)):=by rw[g3];exact cell1 (heap_alloc_new w1 _)
 have gG:=Zyy (d:=d) (x:=x) (fun lo hi id e=>(HK.out.tab x hx lo hi id).1 e) (n:=1048577) (fun i b e=>by have:=gr.out.tk_lt e;omega) (by omega);have HG:=Hd (Zl9 8 w.heap.size w1.heap.size t x hz.out gu.out (Nat.le_refl _) w2' h5 (by omega) (by omega) h6 gG);clear gG h6 g3 hC c2' hu cB HE hG gq;refine(wpIn_wide (n:=9)).1 ?_;refine Zxk rfl (by omega) (gf:=246) (lb:=#[.pointer (some ⟨w1.heap.size,0,none⟩)]) rfl trivial (enters_of func246 (by kernel_rfl) rfl) HG.out (by omega) (by rintro k rfl;omega) (fun p=>rfl)
  (fun pre M W=>∃ v oG,TurS d y w sb pre M W v oG) ?_ ?_ (fun k=>k=w.heap.size\/k=w.heap.size+1\/k=w.heap.size+2) (by rintro k rfl h;omega) ⟨.slice none 0 0,fun _=>none,(⟨fun k=>by simp,h5,hQ,hP,hR,RowR.nil _ _ _ _ _,fun k r h=>(by cases h),fun k r h=>(by cases h)⟩:TurS d y w sb [] _ w2' (.slice none 0 0) (fun _=>none))⟩
  (fun p a' W W1=>a'={ tmps:=#[Value.pointer (some { block:=sb,off:=0 }),Value.int IntKind.i64 ↑x,Value.int IntKind.i64 ↑y,Value.pointer (some { block:=w.heap.size,off:=0 }),undef,Value.pointer (some { block:=w.heap.size+1,off:=0 }),Value.slice none 0 0,Value.pointer (some { block:=w.heap.size+1+1,off:=0 }),undef,Value.int IntKind.i64 ↑p.2,undef,undef,undef,Value.pointer (some { block:=sb,off:=0 }),Value.pointer (some { block:=sb,off:=0 }),Value.pointer (some { block:=sb,off:=2 }),Value.slice (some { block:=gt,off:=0 }) s.ts.length ct,Value.int IntKind.i64 ↑x,Value.pointer (some { block:=gt,off:=x }),Value.pointer (some { block:=t,off:=0 }),Value.func (Fn.func 246) #[] #[Value.pointer (some { block:=w.heap.size+3,off:=0 })],encE p.1,Value.int IntKind.i64 ↑p.2,undef,undef,undef,undef,undef,undef,undef,undef,undef,undef,undef,undef,undef,undef,undef,undef,undef,undef,undef,undef,undef,undef,undef,undef,undef,undef,undef,undef,undef,undef,undef,undef,undef,undef,undef,undef,undef,undef,undef,undef,undef,undef,undef,undef,undef,undef,undef,undef],defers:=[] }) ?_ ?_ ?_ ?_
 .
  rintro pre M W ⟨v,oG,hS⟩ k hk;rcases(hS.mm k).1 hk with rfl|rfl|rfl|hg
  . exact⟨Nat.le_refl _,(Array.getElem?_eq_some_iff.1 hS.boxs).1⟩
  . exact⟨by omega,(Array.getElem?_eq_some_iff.1 hS.boxy).1⟩
  . exact⟨by omega,(Array.getElem?_eq_some_iff.1 hS.boxg).1⟩
  . have:=(hS.ge k _ hg).2;exact⟨by omega,hS.lt k _ hg⟩
 . rintro pre M W W' ⟨v,oG,hS⟩ hw;exact⟨v,oG,hS.minds hw⟩
 . intro p a' W W1 W2 l _ h _;exact h
 .
  intro l pre p M W K hI hK
  gi_wp2
  exact hK _ _ (Wr.refl _ _) rfl
 .
  rintro l pre p a' M W0 W ⟨v,oG,hS⟩ rfl gZ k4 ⟨suf,gc,g0⟩;have gD:=Zzs (d:=d) (x:=x) (fun lo hi id e=>(HK.out.tab x hx lo hi id).1 e) (n:=1048577) (fun i b e=>by have:=gr.out.tk_lt e;omega) gc (fun k id h=>(g0 k id).1 h);have gE:(Ze5 d y pre).length<1000000000:=by
   have h1:(Ze5 d y pre).length<=pre.length:=by unfold Ze5;rw[List.length_map];exact List.length_filter_le _ _
   simp at gD;omega
  have gU:=Hd gE;clear gD gE gc;have hp:d.tab x p.1=some p.2:=(g0 p.1 p.2).1 (by simp);obtain⟨i,hi⟩:∃ i,i=p.2:=⟨_,rfl⟩;have gN:Zab d i=some ⟨x,p.1.1,p.1.2⟩:=(HK.out.tab x hx _ _ _).1 (by rw[hi];exact hp);obtain⟨gY,gP,gI⟩:=Za9 gN;rw[gP] at gI;obtain⟨N,hN⟩:∃ N,N=d.pool.nd i:=⟨_,rfl⟩;have gM:=gr.out.below gu.out hS.low;have gO:=gu.out.mono hS.low.size;obtain⟨q0,q1,q2,q3,q4,_⟩:=cells5 gM.blk;have cs:=cell1 hS.boxs;have cy:=cell1 hS.boxy;have hd:=Hd (Zmu o s.pb d.pool i W gM.pool gO gY);rw[<- hN] at hd gI;rw[<- hi];have HI:=Hd hi;have HS:=Hd hS;have HN:=Hd hN;have hX:=Hd gI;have h7:=Hd gN;clear hS hi hN gI gN gM gO gY gP hp g0 q0 q2 q3 q4
  gi_wp2
  refine⟨trivial,(CallsIn.inRound l (callsIn_wide.2 hd.out)).mono ?_⟩;rintro e W3 ⟨rfl,gp⟩;have cs3:=(gp.cell (p:=⟨w.heap.size,0,none⟩) (Zaa cs)).trans cs;have cy3:=(gp.cell (p:=⟨w.heap.size+1,0,none⟩) (Zaa cy)).trans cy;simp only[Za6];have lb0:w.heap.size<W3.heap.size:=Zaa cs3;have lb1:w.heap.size+1<W3.heap.size:=Zaa cy3;have lb2:w.heap.size+1+1<W3.heap.size:=Nat.lt_of_lt_of_le (Array.getElem?_eq_some_iff.1 HS.out.boxg).1 gp.size;have gX:=Hd gp;clear gp cs cy q1
  gi_wp2
  obtain⟨W4,gh⟩:∃ W4,W4=(W3.alloc (.cells #[.int .i64 N.id,.int .i64 N.v,.int .i64 N.lo,.int .i64 N.hi,.int .i64 N.refs] 254)).alloc (.cells #[.int .i64 N.id,.int .i64 N.v,.int .i64 N.lo,.int .i64 N.hi,.int .i64 N.refs,.int .i64 0,.int .i64 0,.int .i64 0,.int .i64 0] 279):=⟨_,rfl⟩;rw[<- gh];have n4:W4.heap[W3.heap.size]?=some (.cells #[.int .i64 N.id,.int .i64 N.v,.int .i64 N.lo,.int .i64 N.hi,.int .i64 N.refs] 254 (0,0)):=by rw[gh];exact(Below.heap_alloc _ _ _ (by simp)).trans (heap_alloc_new W3 _)
  have t4:W4.heap[W3.heap.size+1]?=some (.cells #[.int .i64 N.id,.int .i64 N.v,.int .i64 N.lo,.int .i64 N.hi,.int .i64 N.refs,.int .i64 0,.int .i64 0,.int .i64 0,.int .i64 0] 279 (0,0)):=by
   rw[gh];have:=heap_alloc_new (W3.alloc (.cells #[.int .i64 N.id,.int .i64 N.v,.int .i64 N.lo,.int .i64 N.hi,.int .i64 N.refs] 254)) (.cells #[.int .i64 N.id,.int .i64 N.v,.int .i64 N.lo,.int .i64 N.hi,.int .i64 N.refs,.int .i64 0,.int .i64 0,.int .i64 0,.int .i64 0] 279);rw[World.size_alloc] at this;exact this
  have gz:Hid (Wr (fun _=>False) W W4):=by rw[gh];exact Hd (((Wr.of_below gX.out (fun _=>False)).alloc _).alloc _)
  have hm:W.heap.size<=W3.heap.size:=gX.out.size;have gy:Below W3.heap.size W3 W4:=by rw[gh];exact(Zad _ _).alloc (by simp) _
  obtain⟨b1,gR⟩:∃ b1,b1=W3.heap.size:=⟨_,rfl⟩;have cs4:=(gy.cell (p:=⟨w.heap.size,0,none⟩) lb0).trans cs3;have cy4:=(gy.cell (p:=⟨w.heap.size+1,0,none⟩) lb1).trans cy3;have gm:Hid (∀ Wc,Wr (fun _=>False) W Wc->TurS d y w sb pre M Wc v oG):=Hd fun Wc h=>HS.out.minds (h.mono fun k e=>e.elim)
  have gl:Hid (∀ Wc,Wr (fun _=>False) W Wc->Zax o Wc sb d/\Zal o Wc):=Hd fun Wc h=>⟨⟨s,gr.out.below gu.out (gm.out Wc h).low⟩,gu.out.mono (gm.out Wc h).low.size⟩
  have gw:okE (Zab d) N.lo/\okE (Zab d) N.hi:=by
   have e:=hX.out;have h1:=HK.out.dag.okLo _ _ h7.out;have h2:=HK.out.dag.okHi _ _ h7.out;have e1:p.1.1=N.lo:=by have:=congrArg BN.lo e;exact this.symm
   have e2:p.1.2=N.hi:=by have:=congrArg BN.hi e;exact this.symm
   dsimp only at h1 h2;rw[e1] at h1;rw[e2] at h2;exact⟨h1,h2⟩
  have hA:=Hd gw;obtain⟨⟨ll,lh⟩,g6⟩:∃ c,c=cofs d N.lo y:=⟨_,rfl⟩;obtain⟨⟨hl,hh⟩,gH⟩:∃ c,c=cofs d N.hi y:=⟨_,rfl⟩;have gB:=Hd (Zhz (gl.out W4 gz.out).1 (gl.out W4 gz.out).2 HK.out N.lo gw.1 y);rw[<- g6] at gB;have hW:=Hd g6;have h8:=Hd gH;rw[<- gR] at n4 t4 hm ⊢;clear gh cs3 cy3 gw g6 gH gy gX gR lb0 lb1 lb2;refine⟨trivial,(CallsIn.inRound l (callsIn_wide.2 gB.out)).mono ?_⟩;rintro e W5 ⟨rfl,gg⟩;have lW4:b1+1<W4.heap.size:=(Array.getElem?_eq_some_iff.1 t4).1;have cs5:=(gg.cell (p:=⟨w.heap.size,0,none⟩) (Zaa cs4)).trans cs4;have cy5:=(gg.cell (p:=⟨w.heap.size+1,0,none⟩) (Zaa cy4)).trans cy4;have n5:=(gg.block b1 (by omega)).trans n4;have t5:=(gg.block (b1+1) lW4).trans t4;have hy:Hid (Wr (fun _=>False) W W5):=Hd (gz.out.trans (Wr.of_below gg (fun _=>False)) (fun _ _ e=>e) (fun _ _ e=>e));have f5:∀ q,W5.frozen? ⟨b1+1,q,none⟩=false:=fun q=>by simp[World.frozen?,t5]
  have k5:W5.cell? ⟨b1+1,5,none⟩=some (.int .i64 0):=by rw[cell_of_row _ _ 5 _ _ _ t5];rfl
  have k6:W5.cell? ⟨b1+1,6,none⟩=some (.int .i64 0):=by rw[cell_of_row _ _ 6 _ _ _ t5];rfl
  have m3:W5.cell? ⟨b1,3,none⟩=some (.int .i64 N.hi):=by rw[cell_of_row _ _ 3 _ _ _ n5];rfl
  have lW5:b1+1<W5.heap.size:=(Array.getElem?_eq_some_iff.1 t5).1;clear gg cs4 cy4 n4 t4 gB lW4
  gi_wp2
  obtain⟨W6,gK⟩:∃ W6,W6=(W5.setCell ⟨b1+1,5,none⟩ (.int .i64 (ll:Nat))).setCell ⟨b1+1,6,none⟩ (.int .i64 (lh:Nat)):=⟨_,rfl⟩;rw[<- gK];have t6:W6.heap[b1+1]?=some (.cells #[.int .i64 N.id,.int .i64 N.v,.int .i64 N.lo,.int .i64 N.hi,.int .i64 N.refs,.int .i64 (ll:Nat),.int .i64 (lh:Nat),.int .i64 0,.int .i64 0] 279 (0,0)):=by
   rw[gK];exact Zah (k:=6) (Zah (k:=5) t5 (.int .i64 (ll:Nat))) (.int .i64 (lh:Nat))
  have gj:Hid (Wr (fun _=>False) W W6):=by rw[gK];exact Hd ((hy.out.setCell (p:=⟨b1+1,5,none⟩) (.inr (by show W.heap.size<=b1+1;omega)) _).setCell (p:=⟨b1+1,6,none⟩) (.inr (by show W.heap.size<=b1+1;omega)) _)
  have gi:=(gm.out W6 gj.out);have cs6:=cell1 gi.boxs;have cy6:=cell1 gi.boxy;have gA:=Hd (Zhz (gl.out W6 gj.out).1 (gl.out W6 gj.out).2 HK.out N.hi hA.out.2 y);rw[<- h8.out] at gA;clear gK cs5 cy5 n5 t5 f5 k5 k6 m3 lW5 gi;refine⟨trivial,(CallsIn.inRound l (callsIn_wide.2 gA.out)).mono ?_⟩;rintro e W7 ⟨rfl,gQ⟩;have lW6:b1+1<W6.heap.size:=(Array.getElem?_eq_some_iff.1 t6).1;have t7:=(gQ.block (b1+1) lW6).trans t6;have hv:Hid (Wr (fun _=>False) W W7):=Hd (gj.out.trans (Wr.of_below gQ (fun _=>False)) (fun _ _ e=>e) (fun _ _ e=>e));have f7:∀ q,W7.frozen? ⟨b1+1,q,none⟩=false:=fun q=>by simp[World.frozen?,t7]
  have k5:W7.cell? ⟨b1+1,5,none⟩=some (.int .i64 (ll:Nat)):=by rw[cell_of_row _ _ 5 _ _ _ t7];rfl
  have k6:W7.cell? ⟨b1+1,6,none⟩=some (.int .i64 (lh:Nat)):=by rw[cell_of_row _ _ 6 _ _ _ t7];rfl
  have k7:W7.cell? ⟨b1+1,7,none⟩=some (.int .i64 0):=by rw[cell_of_row _ _ 7 _ _ _ t7];rfl
  have k8:W7.cell? ⟨b1+1,8,none⟩=some (.int .i64 0):=by rw[cell_of_row _ _ 8 _ _ _ t7];rfl
  have lW7:b1+1<W7.heap.size:=(Array.getElem?_eq_some_iff.1 t7).1;clear gQ cs6 cy6 t6 gA lW6;obtain⟨W8,gJ⟩:∃ W8,W8=(W7.setCell ⟨b1+1,7,none⟩ (.int .i64 (hl:Nat))).setCell ⟨b1+1,8,none⟩ (.int .i64 (hh:Nat)):=⟨_,rfl⟩;have t8:W8.heap[b1+1]?=some (.cells #[.int .i64 N.id,.int .i64 N.v,.int .i64 N.lo,.int .i64 N.hi,.int .i64 N.refs,.int .i64 (ll:Nat),.int .i64 (lh:Nat),.int .i64 (hl:Nat),.int .i64 (hh:Nat)] 279 (0,0)):=by
   rw[gJ];exact Zah (k:=8) (Zah (k:=7) t7 (.int .i64 (hl:Nat))) (.int .i64 (hh:Nat))
  have ga:Hid (Wr (fun _=>False) W W8):=by rw[gJ];exact Hd ((hv.out.setCell (p:=⟨b1+1,7,none⟩) (.inr (by show W.heap.size<=b1+1;omega)) _).setCell (p:=⟨b1+1,8,none⟩) (.inr (by show W.heap.size<=b1+1;omega)) _)
  have g2:=Hd (gm.out W8 ga.out);have g8:=cell1 g2.out.boxg;have r0:W8.cell? ⟨b1+1,0,none⟩=some (.int .i64 N.id):=by rw[cell_of_row _ _ 0 _ _ _ t8];rfl
  have r1:W8.cell? ⟨b1+1,1,none⟩=some (.int .i64 N.v):=by rw[cell_of_row _ _ 1 _ _ _ t8];rfl
  have r2:W8.cell? ⟨b1+1,2,none⟩=some (.int .i64 N.lo):=by rw[cell_of_row _ _ 2 _ _ _ t8];rfl
  have r3:W8.cell? ⟨b1+1,3,none⟩=some (.int .i64 N.hi):=by rw[cell_of_row _ _ 3 _ _ _ t8];rfl
  have r4:W8.cell? ⟨b1+1,4,none⟩=some (.int .i64 N.refs):=by rw[cell_of_row _ _ 4 _ _ _ t8];rfl
  have r5:W8.cell? ⟨b1+1,5,none⟩=some (.int .i64 (ll:Nat)):=by rw[cell_of_row _ _ 5 _ _ _ t8];rfl
  have r6:W8.cell? ⟨b1+1,6,none⟩=some (.int .i64 (lh:Nat)):=by rw[cell_of_row _ _ 6 _ _ _ t8];rfl
  have r7:W8.cell? ⟨b1+1,7,none⟩=some (.int .i64 (hl:Nat)):=by rw[cell_of_row _ _ 7 _ _ _ t8];rfl
  have r8:W8.cell? ⟨b1+1,8,none⟩=some (.int .i64 (hh:Nat)):=by rw[cell_of_row _ _ 8 _ _ _ t8];rfl
  have hU:Hid (_=W8):=Hd gJ.symm;have kd:Hid (b1+1<W8.heap.size):=Hd (Array.getElem?_eq_some_iff.1 t8).1;clear gJ t8;have tin:tnOf d y i=⟨N,ll,lh,hl,hh⟩:=by
   unfold tnOf;rw[<- HN.out,<- hW.out,<- h8.out]
  have gk:=Hd tin;clear tin
  gi_upto_region 8 with fail
  rw[hU.out];clear t7 f7 k5 k6 k7 k8 lW7
  by_cases g4:ll≠lh\/hl≠hh
  .
   have gL:Hid (Zfg d y p.2=true):=Hd (by rw[<- HI.out];unfold Zfg;rw[gk.out];exact decide_eq_true g4);have n1:((ll:Int) != lh)=true\/((ll:Int) != lh)=false:=by cases ((ll:Int) != lh)<;>simp
   have n2:((ll:Int) != lh)=false->((hl:Int) != hh)=true:=fun e=>by
    have ka:(ll:Int)=lh:=by simpa using e
    have h1:ll=lh:=by omega
    have h2:=g4.resolve_left (fun h=>h h1);simp;omega
   rcases n1 with n1|n1
   .
    clear n2
    gi_wp2_with (gi_at_builtin
                 refine Ze6 (wr:=W8) 274 279 9 72 _ underlying274 Zmm rfl (by decide) rfl _ _ rfl rfl rfl rfl rfl rfl (by simp[Value.oneCell']) g2.out.row g2.out.lt gU.out (by decide) ?_;intro g1 k1 w1 o1 gn g6 go;have gT:=Hd gn;have gd:=Hd g6;have gV:=Hd go;clear gn g6 go;have g5:=(gd.out.alien (Array.getElem?_eq_some_iff.1 g2.out.boxg).1 (g2.out.no _ (by omega))).trans g2.out.boxg;have cg1:=cell1 g5;have fz:∀ k,w1.frozen? ⟨w.heap.size+2,k,none⟩=false:=fun k=>by simp[World.frozen?,g5]
                 clear g8 g5)
    obtain⟨M',a1,a2,a3⟩:=g2.out.add gL.out (W1:=w1) (v':=.slice (some ⟨g1,0,none⟩) ((Ze5 d y pre).length+1) k1) (by
     rw[<- HI.out,gk.out,Zxe];exact gT.out) gd.out gV.out (n:=W0.heap.size) (Nat.le_trans gZ ga.out.size)
    exact⟨M',a1,Wr.trans ga.out a2 (fun _ _ e=>e.elim) (fun _ _ e=>e),a3⟩
   .
    have n3:=n2 n1;clear n2
    gi_wp2_with (gi_at_builtin
                 refine Ze6 (wr:=W8) 274 279 9 72 _ underlying274 Zmm rfl (by decide) rfl _ _ rfl rfl rfl rfl rfl rfl (by simp[Value.oneCell']) g2.out.row g2.out.lt gU.out (by decide) ?_;intro g1 k1 w1 o1 gn g6 go;have gT:=Hd gn;have gd:=Hd g6;have gV:=Hd go;clear gn g6 go;have g5:=(gd.out.alien (Array.getElem?_eq_some_iff.1 g2.out.boxg).1 (g2.out.no _ (by omega))).trans g2.out.boxg;have cg1:=cell1 g5;have fz:∀ k,w1.frozen? ⟨w.heap.size+2,k,none⟩=false:=fun k=>by simp[World.frozen?,g5]
                 clear g8 g5)
    obtain⟨M',a1,a2,a3⟩:=g2.out.add gL.out (W1:=w1) (v':=.slice (some ⟨g1,0,none⟩) ((Ze5 d y pre).length+1) k1) (by
     rw[<- HI.out,gk.out,Zxe];exact gT.out) gd.out gV.out (n:=W0.heap.size) (Nat.le_trans gZ ga.out.size)
    exact⟨M',a1,Wr.trans ga.out a2 (fun _ _ e=>e.elim) (fun _ _ e=>e),a3⟩
  .
   have gL:Hid (Zfg d y p.2=false):=Hd (by rw[<- HI.out];unfold Zfg;rw[gk.out];exact decide_eq_false g4);have n1:((ll:Int) != lh)=false:=by
    have:ll=lh:=Decidable.byContradiction fun h=>g4 (.inl h)
    simp[this]
   have n2:((hl:Int) != hh)=false:=by
    have:hl=hh:=Decidable.byContradiction fun h=>g4 (.inr h)
    simp[this]
   clear g4
   gi_wp2
   exact⟨M,⟨v,oG,g2.out.skip gL.out⟩,ga.out.mono (fun _ e=>e.elim),fun k hk=>.inl hk⟩
 .
  rintro xs D M W ⟨gc,g0⟩ hD gS ⟨v,oG,hS⟩ hM hw gx;have g9:=cell1 hS.boxg;have HS:=Hd hS;have kb:=Hd gc;have hY:=Hd g0;have g7:=hS.low;have hZ:D<W.heap.size:=(Array.getElem?_eq_some_iff.1 gx).1;have hB:=Hd gx;have kc:=Hd gS;have HF:Hid (∃ (v':Value) (ids:List Nat),Ending.returned v=.returned v'/\ids.Nodup/\(∀ i,i∈ids↔Turns (Zab d) x y i)/\TRow (W.putObj D (.deferred none)) w.heap.size v' (ids.map (tnOf d y))/\Below w.heap.size w (W.putObj D (.deferred none))):=by
   refine Hd ⟨v,(xs.filter fun p=>Zfg d y p.2).map Prod.snd,rfl,?_,fun i=>?_,?_,?_⟩
   .
    rw[List.nodup_iff_pairwise_ne,List.pairwise_map];have h1:=gc;rw[List.nodup_iff_pairwise_ne,List.pairwise_map] at h1;refine(h1.sublist List.filter_sublist).imp_of_mem fun {a b} ha hb hL e=>hL ?_
    have q1:=(HK.out.tab x hx a.1.1 a.1.2 a.2).1 ((g0 a.1 a.2).1 ((List.mem_filter.1 ha).1));have q2:=(HK.out.tab x hx b.1.1 b.1.2 b.2).1 ((g0 b.1 b.2).1 ((List.mem_filter.1 hb).1));rw[e,q2] at q1;obtain⟨⟨a1,a2⟩,a3⟩:=a;obtain⟨⟨b1,b2⟩,b3⟩:=b;simp at q1;exact Prod.ext q1.1.symm q1.2.symm
   .
    rw[List.mem_map];constructor
    . rintro⟨q,hq,rfl⟩;obtain⟨hJ,hH⟩:=List.mem_filter.1 hq;have hn:=(HK.out.tab x hx q.1.1 q.1.2 q.2).1 ((g0 q.1 q.2).1 hJ);exact(Zjh HK.out hn rfl).1 hH
    . intro hT;obtain⟨b,hb,h4,_⟩:=id hT;have ht:=(HK.out.tab x hx b.lo b.hi i).2 (by rw[hb,<- h4]);exact⟨((b.lo,b.hi),i),List.mem_filter.2 ⟨(g0 _ _).2 ht,(Zjh HK.out hb h4).2 hT⟩,rfl⟩
   .
    have e':((xs.filter fun p=>Zfg d y p.2).map Prod.snd).map (tnOf d y)=Ze5 d y xs:=by unfold Ze5;rw[List.map_map];rfl
    rw[e'];have k0:=Zzs (d:=d) (x:=x) (fun lo hi id e=>(HK.out.tab x hx lo hi id).1 e) (n:=1048577) (fun i b e=>by have:=gr.out.tk_lt e;omega) gc (fun k id h=>(g0 k id).1 h);have ho:(Ze5 d y xs).length<=1048578:=by
     have h1:(Ze5 d y xs).length<=xs.length:=by unfold Ze5;rw[List.length_map];exact List.length_filter_le _ _
     omega
    obtain⟨ag,cpg,rfl,_⟩:=hS.row.slice;refine⟨ho,ag,cpg,rfl,fun k hk=>?_⟩;obtain⟨g,cp,he,h3,_⟩:=hS.row.shape (by omega);cases he;have hO:g≠D:=fun e=>gS ((hS.mm D).2 (.inr (.inr (.inr (e ▸ h3)))))
    refine⟨g,rfl,by have:=(hS.ge g _ h3).2;omega,fun j u hj=>?_⟩;have h9:j<9:=by have:=(List.getElem?_eq_some_iff.1 hj).1;simpa [tnV,rnV] using this
    have hf:=Zf6 tnV 9 (fun _=>rfl) (Ze5 d y xs) k j _ (List.getElem?_eq_getElem hk) h9;have hr:((Ze5 d y xs).flatMap tnV).length=(Ze5 d y xs).length*9:=Zbk _ 9 (fun _=>rfl) _;have hc:=hS.row.cell (k*9+j) (by rw[hr];omega);have gH:W.cell? ⟨g,k*9+j,none⟩=some u:=hc.trans (hf.trans hj);exact(World.cell?_of_block (w:=W) (a:=⟨g,k*9+j,none⟩) (World.putObj_heap_other hO)).trans gH
   . exact⟨g7.os,g7.tape,g7.output,by simpa using g7.size,fun q hq=>(World.putObj_heap_other (by omega)).trans (g7.block q hq)⟩
  clear hS gc g0 gx hM hw gS g7;go_wp2_with fail;refine⟨by simp,.inl ⟨D,_,rfl,run_takeDeferred hB.out,?_⟩⟩;refine⟨_,results_tmp rfl _ _ _,?_⟩;exact HF.out
open Go.RowKit
structure SwV (d0:Zag)(k x y:Nat):Prop where
 k1:k+1<d0.vars.length
 x:d0.vars.getD k 0=x
 y:d0.vars.getD (k+1) 0=y
section
variable {d0 d d':Zag}{V0 V:Nat->BF}{k x y:Nat}{Wt:List (Nat×Nat)}{gone:Nat->Prop}
theorem SwV.facts (s:SwV d0 k x y)(hk:Zaq d0 V0):x<d0.vars.length/\y<d0.vars.length/\levN d0 x=k/\levN d0 y=k+1/\x≠y:=by
 obtain⟨a1,a2⟩:=hk.vlt k (by have:=s.k1;omega);obtain⟨c1,c2⟩:=hk.vlt (k+1) s.k1;rw[s.x] at a1 a2;rw[s.y] at c1 c2;exact⟨a1,c1,a2,c2,by rintro rfl;omega⟩
structure CutS (d0:Zag)(k x:Nat)(gone:Nat->Prop)(d:Zag):Prop where
 vars:d.vars=(Zep d0 k).vars
 level:d.level=(Zep d0 k).level
 pool:d.pool=d0.pool
 counts:d.counts=d0.counts
 dead:d.dead=d0.dead
 tabO:∀ v,v≠x->d.tab v=d0.tab v
 tabX:∀ lo hi id,d.tab x (lo,hi)=some id↔d0.tab x (lo,hi)=some id/\¬ gone id
theorem CutS.start (d0:Zag)(k x:Nat):CutS d0 k x (fun _=>False) (Zep d0 k):=⟨rfl,rfl,rfl,rfl,rfl,fun _ _=>rfl,fun lo hi id=>by simp[Zep]⟩
theorem CutS.next (c:CutS d0 k x gone d)(hk:Zaq d0 V0)(hx:x<d0.vars.length){i lo hi:Nat}(hti:d0.tab x (lo,hi)=some i):CutS d0 k x (fun j=>gone j\/j=i) { d with tab:=fun u=>if u=x then putF (d.tab u) (lo,hi) none else d.tab u }:=by
 refine⟨c.vars,c.level,c.pool,c.counts,c.dead,fun v hv=>by dsimp only;rw[if_neg hv];exact c.tabO v hv,fun lo' g0 id=>?_⟩;dsimp only;rw[if_pos rfl];unfold putF
 by_cases e:(lo',g0)=(lo,hi)
 .
  cases e;rw[if_pos rfl,hti];constructor
  . intro h;cases h
  . rintro⟨h1,h2⟩;cases h1;exact(h2 (.inr rfl)).elim
 .
  rw[if_neg e,c.tabX];constructor
  .
   rintro⟨h1,h2⟩;refine⟨h1,fun h3=>?_⟩;rcases h3 with h3|h3
   . exact h2 h3
   . subst h3;have q1:=(hk.tab x hx _ _ _).1 h1;have q2:=(hk.tab x hx _ _ _).1 hti;rw[q1] at q2;cases q2;exact e rfl
  . rintro⟨h1,h2⟩;exact⟨h1,fun h3=>h2 (.inl h3)⟩
theorem CutS.has (c:CutS d0 k x gone d){i lo hi:Nat}(h:d0.tab x (lo,hi)=some i)(hg:¬ gone i):d.tab x (lo,hi)=some i:=(c.tabX _ _ _).2 ⟨h,hg⟩
theorem Zb0.start (c:CutS d0 k x gone d)(hk:Zaq d0 V0)(hx:x<d0.vars.length)(hd:d0.dead=0)(hg:∀ i,Turns (Zab d0) x y i↔gone i){ps:List (Nat×Nat)}(hw:Zgq (d0.tab x) ps Wt):Zb0 d0 V0 k x y Wt (Za0 d0) (fun _=>False) d V0:=by
 have hn:Zab d=Zab d0:=by unfold Zab;rw[c.pool]
 have he:Za0 d=Za0 d0:=by unfold Za0;rw[c.pool]
 have hc:Zaz d=Zaz d0:=by unfold Zaz;rw[c.counts]
 refine⟨by rw[hn];exact Zfp.start hk.dag x y,c.vars,c.level,by rw[c.pool],he,⟨by rw[hn,hc,c.pool];exact hk.live.cnt,by rw[hn,hc,c.pool,c.dead];exact hk.live.dead,by rw[hn,c.counts];exact hk.live.has⟩,
  fun v hv g0 lo hi id=>by rw[c.tabO v g0,hn];exact hk.tab v hv lo hi id,fun lo hi id=>by rw[c.tabX,hn,hk.tab x hx,hg],by rw[c.counts];exact hk.clen,fun i hT=>?_,?_⟩
 . obtain⟨b,hb,_⟩:=hT;rw[hc];exact Zj9 hk.live hd hb
 .
  rw[c.pool];have:(Wt.filter fun κ=>(d.tab x κ).isSome)=[]:=by
   rw[List.filter_eq_nil_iff];intro κ hκ;cases e:d.tab x κ with
   | none=>simp
   | some id =>
     have h1:=((c.tabX κ.1 κ.2 id).1 e).1;have h2:=hw.free κ hκ;rw[h1] at h2;cases h2
  rw[this];rfl
theorem Zb0.congr {E:Nat->Int}{done done':Nat->Prop}(m:Zb0 d0 V0 k x y Wt E done d V)(h:∀ i,done i↔done' i):Zb0 d0 V0 k x y Wt E done' d V:=by
 have e:done=done':=funext fun i=>propext (h i)
 rw[<- e];exact m
theorem Zxb (s:SwV d0 k x y)(hk:Zaq d0 V0)(hl:d0.level.length=d0.vars.length)(v:Nat):(Zep d0 k).level.getD v 0=Zfz (levN d0) x y v:=by
 obtain⟨hx,hy,lx,ly,g0⟩:=s.facts hk;unfold Zep Zfz levN;dsimp only;rw[s.x,s.y];unfold levN at lx ly;rw[lx,ly];simp only[List.getD,List.getElem?_set,List.length_set]
 by_cases e1:v=x
 . subst e1;rw[if_neg (Ne.symm g0),if_pos rfl,if_pos (by omega),if_pos rfl];rfl
 .
  by_cases e2:v=y
  . subst e2;rw[if_pos rfl,if_pos (by omega),if_neg e1,if_pos rfl];rfl
  . rw[if_neg (Ne.symm e2),if_neg (Ne.symm e1),if_neg e1,if_neg e2]
theorem Zm0 (s:SwV d0 k x y)(i:Nat):(Zep d0 k).vars.getD i 0=if i=k then y else if i=k+1 then x else d0.vars.getD i 0:=by
 have h1:=s.k1;unfold Zep;dsimp only;rw[s.x,s.y];simp only[List.getD,List.getElem?_set,List.length_set]
 by_cases e1:i=k
 . subst e1;rw[if_neg (by omega),if_pos rfl,if_pos (by omega),if_pos rfl];rfl
 .
  by_cases e2:i=k+1
  . subst e2;rw[if_pos rfl,if_pos h1,if_neg e1,if_pos rfl];rfl
  . rw[if_neg (Ne.symm e2),if_neg (Ne.symm e1),if_neg e1,if_neg e2]
theorem Zi0 (d0:Zag)(k:Nat):(Zep d0 k).vars.length=d0.vars.length:=by simp[Zep]
theorem Zb0.final {done:Nat->Prop}(m:Zb0 d0 V0 k x y Wt (Za0 d0) done d V)(s:SwV d0 k x y)(hk:Zaq d0 V0)(hl:d0.level.length=d0.vars.length)(hall:∀ i,Turns (Zab d0) x y i->done i):Zaq d V:=by
 obtain⟨hx,hy,lx,ly,g2⟩:=s.facts hk;have g1:levN d=Zfz (levN d0) x y:=by funext v;unfold levN;rw[m.level];exact Zxb s hk hl v
 have g0:d.vars.length=d0.vars.length:=by rw[m.vars,Zi0]
 have g3:=m.mid.final hk.dag hx hy (by omega) hall;have g4:∀ v,v<d0.vars.length->(v=x/\Zfz (levN d0) x y v=k+1)\/(v=y/\Zfz (levN d0) x y v=k)\/(v≠x/\v≠y/\Zfz (levN d0) x y v=levN d0 v/\levN d0 v≠k/\levN d0 v≠k+1):=by
  intro v hv
  by_cases e1:v=x
  . subst e1;exact .inl ⟨rfl,by rw[Zid,ly]⟩
  .
   by_cases e2:v=y
   . subst e2;exact .inr (.inl ⟨rfl,by rw[Zie _ g2,lx]⟩)
   . exact .inr (.inr ⟨e1,e2,Zlm _ e1 e2,fun h=>e1 (hk.dag.inj v x hv hx (by rw[h,lx])),fun h=>e2 (hk.dag.inj v y hv hy (by rw[h,ly]))⟩)
 refine⟨by rw[g0,g1];exact g3,by rw[m.ext];exact m.live,fun v hv lo hi id=>?_,m.clen,by rw[g0];exact hk.small,fun v hv=>?_,fun i hi=>?_⟩
 .
  rw[g0] at hv
  by_cases e:v=x
  . subst e;rw[m.tabX];refine⟨fun h=>h.1,fun h=>⟨h,fun hT=>?_⟩⟩;obtain⟨_,b,hb,g5,_⟩:=m.mid.dn id (hall id hT);rw[h] at hb;cases hb;exact g2 g5
  . exact m.tabO v hv e lo hi id
 .
  rw[g0] at hv;rw[g1,m.vars,Zm0 s];rcases g4 v hv with ⟨rfl,e⟩|⟨rfl,e⟩|⟨_,_,e,h1,h2⟩
  . rw[e,if_neg (by omega),if_pos rfl]
  . rw[e,if_pos rfl]
  . rw[e,if_neg h1,if_neg h2];exact hk.inv v hv
 .
  rw[g0] at hi ⊢;rw[g1,m.vars,Zm0 s]
  by_cases e1:i=k
  . rw[if_pos e1];exact⟨hy,by rw[Zie _ g2,lx,e1]⟩
  .
   rw[if_neg e1]
   by_cases e2:i=k+1
   . rw[if_pos e2];exact⟨hx,by rw[Zid,ly,e2]⟩
   . rw[if_neg e2];obtain⟨h1,h2⟩:=hk.vlt i hi;refine⟨h1,?_⟩;rw[Zlm _ (fun e=>e1 (by rw[<- h2,e,lx])) (fun e=>e2 (by rw[<- h2,e,ly]))];exact h2
structure Zkn (d0:Zag)(V0:Nat->BF)(k:Nat)(d':Zag)(V':Nat->BF):Prop where
 ok:Zaq d' V'
 vars:d'.vars=(Zep d0 k).vars
 level:d'.level=(Zep d0 k).level
 room:d'.pool.room=d0.pool.room
 dead:d'.dead=0
 val:∀ i,(i=0\/∃ b,Zab d0 i=some b)->V' i=V0 i
 live:∀ i b,Zab d0 i=some b->1<=Za0 d0 i->∃ b',Zab d' i=some b'
 ext:∀ i b',Zab d' i=some b'->Za0 d' i=Za0 d0 i
theorem Zb0.out {done:Nat->Prop}(m:Zb0 d0 V0 k x y Wt (Za0 d0) done d V)(hok:Zaq d V)(r:Zbi d d'):Zkn d0 V0 k d' V:=by
 refine⟨r.ok hok,r.vars.trans m.vars,r.level.trans m.level,r.room.trans m.room,r.dead,m.mid.ext,fun i b hb he=>?_,fun i b' g0=>by rw[r.ext i b' g0,m.ext]⟩;obtain⟨b',g0⟩:=m.mid.has hb;refine⟨b',?_⟩;rw[r.nodes,if_pos (hok.live.cnt.pos_of_ext g0 (by rw[m.ext];exact he))];exact g0
end
open Go.RowKit
section
variable {d0 d:Zag}{V0 V:Nat->BF}{k x y:Nat}{Wt:List (Nat×Nat)}{E:Nat->Int}{done:Nat->Prop}{o:Own}{w:World}{sb:Nat}
structure SwF (d0:Zag)(V0:Nat->BF)(k x y:Nat):Prop where
 v:SwV d0 k x y
 ok:Zaq d0 V0
 lev:d0.level.length=d0.vars.length
 top:∀ i,Za0 d0 i<=549755813888
theorem SwF.facts (f:SwF d0 V0 k x y):x<d0.vars.length/\y<d0.vars.length/\levN d0 x=k/\levN d0 y=k+1/\x≠y:=f.v.facts f.ok
theorem Zb0.acy (m:Zb0 d0 V0 k x y Wt E done d V)(f:SwF d0 V0 k x y):Acy (Zab d) (rkSw d0.vars.length (levN d0) (Zab d0) x y (Zab d)):=by
 obtain⟨hx,hy,lx,ly,g0⟩:=f.facts;exact Yau f.ok.dag hx (by omega) m.mid
theorem Zb0.vlen (m:Zb0 d0 V0 k x y Wt E done d V):d.vars.length=d0.vars.length:=by rw[m.vars,Zi0]
theorem Zsd {o':Own}{w':World}(h:Chg RCnt o o' w w'):Chg Zar o o' w w':=h.mono Zjd
theorem Zr7 (st:Zax o w sb d)(hlt:Zal o w)(f:SwF d0 V0 k x y)(m:Zb0 d0 V0 k x y Wt E done d V){e:Nat}(he:midE d0.vars.length (levN d0) (Zab d0) (Zab d) x y e)(hE:∀ i,E i<=549755813898) :
 Calls prog 203 #[.pointer (some ⟨sb,0,none⟩),.int .i64 e] w fun q w'=>q=.returned (.tuple #[])/\∃ d',Zax o w' sb d'/\Zal o w'/\Zb0 d0 V0 k x y Wt (addE E e 1) done d' V/\Zab d'=Zab d/\d'.pool=d.pool/\Chg Zar o o w w':=by
 obtain⟨s,st⟩:=st;obtain⟨hx,hy,lx,ly,g0⟩:=f.facts;have ho:=Zsa m.mid he;refine(Zgh o sb s _ (2*(d0.vars.length-levN d0 x)) w d E e ⟨st,hlt,m.acy f,ho,m.live,fun q b _=>?_,?_⟩).mono ?_
 .
  have h1:=hE q;have h2:toE e q<=1:=by unfold toE;split<;>omega
  omega
 .
  rcases ho with h0|⟨c,hc⟩
  . exact .inl h0
  . right;have:=Zzn f.ok.dag hx (by omega) m.mid he hc;omega
 . rintro q w' ⟨cs,dd,rfl,h1,h2,h3,h4,_,h6⟩;exact⟨rfl,_,⟨s,h1⟩,hlt.mono h6.size,m.counts h2 h3 h4 (Nat.le_refl _),rfl,rfl,Zsd h6⟩
theorem Zr6 (st:Zax o w sb d)(hlt:Zal o w)(f:SwF d0 V0 k x y)(m:Zb0 d0 V0 k x y Wt E done d V){i e:Nat}{b:BN}(hb:Zab d0 i=some b)(hbx:b.v=x)(he:e=b.lo\/e=b.hi)(hE:∀ i,E i<=549755813898)(hp:∀ i,0<=E i-toE e i) :
 Calls prog 196 #[.pointer (some ⟨sb,0,none⟩),.int .i64 e] w fun q w'=>q=.returned (.tuple #[])/\∃ d',Zax o w' sb d'/\Zal o w'/\Zb0 d0 V0 k x y Wt (addE E e (-1)) done d' V/\Chg Zar o o w w':=by
 obtain⟨s,st⟩:=st;obtain⟨hx,hy,lx,ly,g3⟩:=f.facts;have g1:okE (Zab d0) e:=by rcases he with rfl|rfl;exact f.ok.dag.okLo _ _ hb;exact f.ok.dag.okHi _ _ hb
 have g2:levN d0 b.v<lvE d0.vars.length (levN d0) (Zab d0) e:=by rcases he with rfl|rfl;exact f.ok.dag.lvLo _ _ hb;exact f.ok.dag.lvHi _ _ hb
 have ho:=Zja m.mid g1;have g6:=st.pool.top;have g4:=st.pool.room;refine(Zgg o sb s _ (2*(d0.vars.length-levN d0 x)) w d E e ⟨st,hlt,m.acy f,ho,m.live,fun q c hc=>?_,fun q _ _=>hp q,?_⟩).mono ?_
 . have h1:=m.live.cnt.le hc;have h2:=hE q;omega
 .
  rcases g1 with h0|⟨c0,g0⟩
  . exact .inl h0
  .
   right;rw[Zpk g0,hbx] at g2;have g5:=f.ok.dag.lt _ (f.ok.dag.var _ _ g0);rcases ho with h0|⟨c,hc⟩
   . rw[h0,f.ok.dag.none0] at g0;cases g0
   .
    rcases Zwy m.mid g0 hc with ⟨_,hv,_⟩|⟨_,_,h3,_⟩
    . rw[hv] at g2;omega
    . omega
 . rintro q w' ⟨cs,dd,rfl,h1,h2,h3,h4,_,h6⟩;exact⟨rfl,_,⟨s,h1⟩,hlt.mono h6.size,m.counts h2 h3 h4 (Nat.le_refl _),Zsd h6⟩
theorem Zkq {V:Nat->BF}(st:Zax o w sb d)(hlt:Zal o w)(hk:Zaq d V) :
 Calls prog 212 #[.pointer (some ⟨sb,0,none⟩)] w fun q w'=>q=.returned (.int .i64 d.dead)/\∃ o' d',Zax o' w' sb d'/\Zal o' w'/\Zbi d d'/\Chg Zar o o' w w':=by
 by_cases h0:d.dead=0
 . refine(Zii st h0).mono ?_;rintro q w' ⟨rfl,hb⟩;obtain⟨s,st⟩:=st;exact⟨by rw[h0];rfl,o,d,⟨s,st.below hlt hb⟩,hlt.mono hb.size,Zbi.none hk h0,Chg.of_below hb _ _⟩
 . exact Zkr st hlt hk h0
end
open Go.RowKit
section
variable {R:Role->Prop}{o o':Own}{w w':World}
structure Box (o:Own)(w:World)(b:Nat)(O:Obj):Prop where
 blk:w.heap[b]?=some O
 no:o b=none
theorem Box.chg {b:Nat}{O:Obj}(h:Box o w b O)(hc:Chg R o o' w w'):Box o' w' b O :=
 ⟨(hc.alien (Array.getElem?_eq_some_iff.1 h.blk).1 h.no).trans h.blk,hc.alien' (Array.getElem?_eq_some_iff.1 h.blk).1 h.no⟩
theorem Box.cell {b:Nat}{cs:Array Value}{T:TypeId}(h:Box o w b (.cells cs T (0,0)))(i:Nat):w.cell? ⟨b,i,none⟩=cs[i]?:=cell_of_row w b i _ _ _ h.blk
theorem Box.other {b:Nat}{O:Obj}{p:Addr}{u:Value}(h:Box o w b O)(hne:b≠p.block):Box o (w.setCell p u) b O:=⟨(Zai hne _).trans h.blk,h.no⟩
theorem Box.set {b:Nat}{cs:Array Value}{T:TypeId}(h:Box o w b (.cells cs T (0,0)))(i:Nat)(u:Value):Box o (w.setCell ⟨b,i,none⟩ u) b (.cells (cs.setIfInBounds i u) T (0,0)) :=
 ⟨Zah h.blk u,h.no⟩
theorem TRow.chg {base:Nat}{v:Value}{ts:List TN}(h:TRow w base v ts)(hc:Chg R o o' w w')(hn:0<ts.length->∀ g,v.ownBlock=some g->o g=none):TRow w' base v ts:=by
 by_cases hp:0<ts.length
 . exact h.keep fun g _ hg hv=>hc.alien hg (hn hp g hv)
 . obtain⟨a,c,h1,_⟩:=h.ex;exact⟨h.small,a,c,h1,fun k hk=>by omega⟩
theorem TRow.blk {base:Nat}{v:Value}{ts:List TN}(h:TRow w base v ts)(hp:0<ts.length):∀ g,v.ownBlock=some g->base<=g/\g<w.heap.size:=by
 obtain⟨a,c,rfl,h1⟩:=h.ex;obtain⟨g0,rfl,hb,hc⟩:=h1 0 hp;intro g hg;cases hg;exact⟨hb,Zaa (hc 0 _ rfl)⟩
end
structure RndI (sb:Nat)(o1:Own)(w1:World)(base:Nat)(v:Value)(ts:List TN)(W:World)(o:Own)(d:Zag):Prop where
 st:Zax o W sb d
 lt:Zal o W
 row:TRow W base v ts
 no:0<ts.length->∀ g,v.ownBlock=some g->o g=none
 chg:Chg Zar o1 o w1 W
section
variable {sb:Nat}{o1 o o':Own}{w1 W W':World}{base:Nat}{v:Value}{ts:List TN}{d d':Zag}{R:Role->Prop}
theorem RndI.move (h:RndI sb o1 w1 base v ts W o d)(st:Zax o' W' sb d')(lt:Zal o' W')(hc:Chg R o o' W W')(hR:∀ r,R r->Zar r):RndI sb o1 w1 base v ts W' o' d' :=
 ⟨st,lt,h.row.chg hc h.no,fun hp g hg=>hc.alien' (h.row.blk hp g hg).2 (h.no hp g hg),h.chg.trans (hc.mono hR)⟩
theorem RndI.below (h:RndI sb o1 w1 base v ts W o d)(hb:Below W.heap.size W W'):RndI sb o1 w1 base v ts W' o d :=
 h.move (R:=Zar) (h.st.below h.lt hb) (h.lt.mono hb.size) (Chg.of_below hb _ _) (fun _ h=>h)
theorem RndI.write (h:RndI sb o1 w1 base v ts W o d){b:Nat}(hb:o b=none)(h1:w1.heap.size<=b)(hv:∀ g,0<ts.length->v.ownBlock=some g->g≠b)(i:Nat)(u:Value):RndI sb o1 w1 base v ts (W.setCell ⟨b,i,none⟩ u) o d:=by
 refine⟨h.st.keepR (fun g r hg _=>Zai (by rintro rfl;rw[hb] at hg;cases hg) _) (fun _ _ h=>h),h.lt.mono (by simp[World.setCell]),?_,h.no,h.chg.setCell_new h1 u⟩
 by_cases hp:0<ts.length
 . exact h.row.keep fun g _ _ hg=>Zai (hv g hp hg) _
 . obtain⟨a,c,h2,_⟩:=h.row.ex;exact⟨h.row.small,a,c,h2,fun k hk=>by omega⟩
end
section
variable {d0 d:Zag}{V0 V:Nat->BF}{k x y:Nat}{Wt:List (Nat×Nat)}{E:Nat->Int}{done:Nat->Prop}
theorem Zut (E:Nat->Int)(a b lo hi:Nat):addE (addE (addE (addE (addE (addE E lo 1) hi 1) a 1) b 1) lo (-1)) hi (-1)=addE (addE E a 1) b 1:=by
 funext i;unfold addE;omega
theorem Zus (E:Nat->Int)(a b:Nat):addE (addE (addE (addE E a 1) b 1) a (-1)) b (-1)=E:=by
 funext i;unfold addE;omega
theorem Zn3 {i:Nat}{n:RN}(hk:i<d.pool.at_.length)(ht:d.pool.tk i=true):Zab { d with pool:=d.pool.setNd i n }=setN (Zab d) i (bnOf n):=by
 funext j;unfold Zab setN;rw[Zao.setNd_get hk ht]
 by_cases e:j=i
 . rw[if_pos e,if_pos e];rfl
 . rw[if_neg e,if_neg e]
theorem Zrj {i:Nat}{n:RN}(hk:i<d.pool.at_.length)(ht:d.pool.tk i=true)(he:(n.refs:Int)=Za0 d i):Za0 { d with pool:=d.pool.setNd i n }=Za0 d:=by
 funext j;have hb:Za0 d i=((d.pool.nd i).refs:Int):=Zcq ht;unfold Za0;have h1:(d.pool.setNd i n).tk j=d.pool.tk j:=rfl;have h2:(d.pool.setNd i n).nd j=if j=i then n else d.pool.nd j:=Zir hk j
 dsimp only;rw[h1,h2]
 by_cases e:j=i
 . subst e;rw[if_pos rfl,he,hb]
 . rw[if_neg e]
theorem Zb0.turned {i lo hi:Nat}{b:BN}{n:RN}(m:Zb0 d0 V0 k x y Wt (addE (addE (Za0 d0) lo 1) hi 1) done d V)(f:SwF d0 V0 k x y)(hT:Turns (Zab d0) x y i)(hd:¬ done i)(hb:Zab d0 i=some b)
 (hlo:midE d0.vars.length (levN d0) (Zab d0) (Zab d) x y lo) (hhi:midE d0.vars.length (levN d0) (Zab d0) (Zab d) x y hi) (hr:hi%2=0) (hne:lo≠hi) (hV:V0 i=iteF y (ef V hi) (ef V lo))
 (hn:bnOf n=⟨y,lo,hi⟩) (hrf:(n.refs:Int)=Za0 d0 i) (hk:i<d.pool.at_.length) :
 d.tab y (lo,hi)=none/\Zb0 d0 V0 k x y Wt (addE (addE (Za0 d0) b.lo 1) b.hi 1) (fun j=>done j\/j=i) { d with pool:=d.pool.setNd i n,tab:=fun u=>if u=y then putF (d.tab y) (lo,hi) (some i) else d.tab u } V:=by
 obtain⟨hx,hy,lx,ly,g0⟩:=f.facts;have g1:Zab d i=some b:=m.mid.keep i b hb hd;have ht:=(Za9 g1).1;refine⟨m.fresh_y f.ok.dag g0 hy hT hd hV,?_⟩;have h1:=m.set (p':=d.pool.setNd i n) g0 f.ok.dag hy hT hd hb hlo hhi hr hne hV (by rw[Zn3 hk ht,hn]) (Zrj hk ht (by rw[hrf,m.ext])) rfl rfl (by simp[Zao.setNd]);rw[Zut] at h1;have e:(fun u=>if u=y then putF (d.tab u) (lo,hi) (some i) else d.tab u)=(fun u=>if u=y then putF (d.tab y) (lo,hi) (some i) else d.tab u):=by
  funext u;by_cases e:u=y
  . subst e;rfl
  . rw[if_neg e,if_neg e]
 rw[e] at h1;exact h1
end
theorem Zy2 {sb:Nat}{o1 o:Own}{w1 W:World}{base:Nat}{v:Value}{ts:List TN}{d:Zag}{s:Za7}(h:RndI sb o1 w1 base v ts W o d)(st:Zap o W sb d s){n:RN}(ht:d.pool.tk n.id=true){O1 O2:Obj}{b1 b2:Nat}(x1:Box o W b1 O1)(x2:Box o W b2 O2) :
 Calls prog 195 #[.pointer (some ⟨s.pb,0,none⟩),Za6 n] W fun e w'=>∃ q,e=.returned q/\(q=.int .i64 0/\RndI sb o1 w1 base v ts w' o { d with pool:=d.pool.setNd n.id n }/\Zap o w' sb { d with pool:=d.pool.setNd n.id n } s/\Box o w' b1 O1/\Box o w' b2 O2):=by
 refine(Zh9 o s.pb d.pool n W st.pool h.lt ht).mono ?_;rintro e w' ⟨rfl,hp,hc,g0⟩;have st':=st.setPool h.lt hp (hc.mono (fun r hr=>by simp[Zfi,hr]));exact⟨_,rfl,rfl,h.move ⟨s,st'⟩ g0 hc Zha,st',x1.chg hc,x2.chg hc⟩
theorem Zy1 {sb:Nat}{o1 o:Own}{w1 W:World}{base:Nat}{v:Value}{ts:List TN}{d:Zag}{s:Za7}(h:RndI sb o1 w1 base v ts W o d)(st:Zap o W sb d s){y lo hi id:Nat}(hy:y<s.ts.length)(hf:d.tab y (lo,hi)=none){O1 O2:Obj}{b1 b2:Nat}(x1:Box o W b1 O1)(x2:Box o W b2 O2) :
 Calls prog 220 #[.pointer (some ⟨s.ts.getD y 0,0,none⟩),.int .i64 lo,.int .i64 hi,.int .i64 id] W fun e w'=>∃ q,e=.returned q/\(q=.int .i64 0/\RndI sb o1 w1 base v ts w' o { d with tab:=fun u=>if u=y then putF (d.tab y) (lo,hi) (some id) else d.tab u }/\Box o w' b1 O1/\Box o w' b2 O2):=by
 refine(Zwr o y (s.ts.getD y 0) (d.tab y) lo hi id W (st.tab y hy) h.lt hf).mono ?_;rintro e w' ⟨rfl,ht,hc,g0⟩;have st':=st.setTab h.lt ht hc;exact⟨_,rfl,rfl,h.move ⟨s,st'⟩ g0 hc (fun r hr=>by simp[Zar,hr]),x1.chg hc,x2.chg hc⟩
structure Zzx (d0:Zag)(V0:Nat->BF)(x y i:Nat)(b:BN):Prop where
 node:Zab d0 i=some b
 v:b.v=x
 lo:(d0.pool.nd i).lo=b.lo
 hi:(d0.pool.nd i).hi=b.hi
 id:(d0.pool.nd i).id=i
 val:Zzy d0 V0 x y i (tnOf d0 y i).ll (tnOf d0 y i).lh (tnOf d0 y i).hl (tnOf d0 y i).hh
 ne:(tnOf d0 y i).ll≠(tnOf d0 y i).lh\/(tnOf d0 y i).hl≠(tnOf d0 y i).hh
theorem Zxg {d0:Zag}{V0:Nat->BF}{k x y i:Nat}{o:Own}{w:World}{sb:Nat}{s:Za7}(f:SwF d0 V0 k x y)(h:Zap o w sb d0 s)(hT:Turns (Zab d0) x y i):∃ b,Zzx d0 V0 x y i b:=by
 obtain⟨hx,hy,lx,ly,g2⟩:=f.facts;obtain⟨b,hb,g0,g3⟩:=id hT;obtain⟨ht,g1,he⟩:=Za9 hb;rw[g1] at he;have e1:(d0.pool.nd i).lo=b.lo:=by rw[<- he];rfl
 have e2:(d0.pool.nd i).hi=b.hi:=by rw[<- he];rfl
 refine⟨b,hb,g0,e1,e2,h.pool.id i ht,?_,?_⟩
 . have:=Zxh f.ok hy (by omega) hb g0;unfold tnOf;rw[e1,e2];exact this
 . have:=(Zjh f.ok hb g0).2 hT;unfold Zfg at this;exact of_decide_eq_true this
structure Zul (d0:Zag)(V0:Nat->BF)(k x y:Nat)(Wt:List (Nat×Nat))(done:Nat->Prop)(i:Nat)(r1 r2:Nat)(d:Zag)(V:Nat->BF):Prop where
 mid:Zb0 d0 V0 k x y Wt (Za0 d0) done d V
 e1:midE d0.vars.length (levN d0) (Zab d0) (Zab d) x y r1
 e2:midE d0.vars.length (levN d0) (Zab d0) (Zab d) x y r2
 reg:r2%2=0
 ne:r1≠r2
 val:V0 i=iteF y (ef V r2) (ef V r1)
theorem Zul.of {d0:Zag}{V0:Nat->BF}{k x y:Nat}{Wt:List (Nat×Nat)}{done:Nat->Prop}{i r1 r2:Nat}{d d1 d2:Zag}{V V1 V2:Nat->BF}{b:BN}(f:SwF d0 V0 k x y)(t:Zzx d0 V0 x y i b)
 (h1:Zgj d0 V0 k x y Wt done d V (tnOf d0 y i).ll (tnOf d0 y i).hl r1 d1 V1) (h2:Zgj d0 V0 k x y Wt done d1 V1 (tnOf d0 y i).lh (tnOf d0 y i).hh r2 d2 V2):Zul d0 V0 k x y Wt done i r1 r2 d2 V2:=by
 obtain⟨hx,hy,lx,ly,g0⟩:=f.facts;obtain⟨k1,k2⟩:=h2.keep r1 h1.edge;obtain⟨q1,q2⟩:=Zuj (V:=V2) f.ok hx hy g0 (by omega) t.val t.ne (k2.trans h1.val) h2.val;exact⟨h2.mid,k1,h2.edge,h2.reg t.val.reg,q2,q1⟩
theorem Zsq {d0 d:Zag}{V0 V:Nat->BF}{k x y:Nat}{Wt:List (Nat×Nat)}{E:Nat->Int}{done:Nat->Prop}{ps:List (Nat×Nat)}(m:Zb0 d0 V0 k x y Wt E done d V)(f:SwF d0 V0 k x y)(hw:Zgq (d0.tab x) ps Wt){lo hi:Nat}(hp:(lo,hi)∈ps)
 (hlo:lowE d0.vars.length (levN d0) (Zab d0) y lo) (hhi:lowE d0.vars.length (levN d0) (Zab d0) y hi) (hne:lo≠hi) (ht:d.tab x (bkey lo hi)=none):bkey lo hi∈Wt:=by
 obtain⟨hx,hy,lx,ly,g3⟩:=f.facts;refine hw.has (lo,hi) hp hne ?_
 show d0.tab x (bkey lo hi)=none
 cases e:d0.tab x (bkey lo hi) with
 | none=>rfl
 | some id =>
   exfalso;have hb:=(f.ok.tab x hx _ _ id).1 e;have low:∀ {e:Nat},lowE d0.vars.length (levN d0) (Zab d0) y e->¬ isV (Zab d0) y e:=by
    rintro e ⟨_,h2⟩ ⟨c,hc,g1⟩;rw[Zpk hc,g1] at h2;omega
   by_cases hT:Turns (Zab d0) x y id
   .
    obtain⟨b,g0,g4,g2⟩:=hT;rw[hb] at g0;cases g0;rcases g2 with h|h
    . exact low (Zdo hlo) h
    . exact low (Zdo hhi) h
   . have h1:=(m.tabX (bkey lo hi).1 (bkey lo hi).2 id).2 ⟨m.mid.keep id _ hb (fun hd=>hT (m.mid.dn id hd).1),hT⟩;rw[show ((bkey lo hi).1,(bkey lo hi).2)=bkey lo hi from rfl,ht] at h1;cases h1
open Go.RowKit
section
variable {F:Phi}{o:Own}{w:World}{sb mb:Nat}{d:Zag}{m:ManD}
theorem Zn7 (h:Zax o w sb d):Calls prog 215 #[.pointer (some ⟨sb,0,none⟩)] w fun x w'=>x=.returned (.int .i64 d.pool.room)/\w=w':=by
 obtain⟨s,h⟩:=h;obtain⟨c0,c1,c2,c3,c4,f0⟩:=cells5 h.blk;have HP:=Hd (Zp2 o s.pb d.pool w h.pool);clear h
 go_enter func215,ntmps215
 go_wp2_with fail;refine HP.out.mono ?_;rintro x w' ⟨rfl,rfl⟩;go_wp2_with fail;go_ret;exact⟨rfl,rfl⟩
end
section
variable {F:Phi}{o:Own}{w:World}{sb mb:Nat}{d:Zag}{m:ManD}
theorem Zqh (h:Zax o w sb d):Calls prog 216 #[.pointer (some ⟨sb,0,none⟩)] w fun x w'=>x=.returned (.int .i64 d.pool.many)/\w=w':=by
 obtain⟨s,h⟩:=h;obtain⟨c0,c1,c2,c3,c4,f0⟩:=cells5 h.blk;have HP:=Hd (Zrg o s.pb d.pool w h.pool);clear h
 go_enter func216,ntmps216
 go_wp2_with fail;refine HP.out.mono ?_;rintro x w' ⟨rfl,rfl⟩;go_wp2_with fail;go_ret;exact⟨rfl,rfl⟩
end
open Go.RowKit
theorem Zx2 {d:Zag}{ids:List Nat}(hn:ids.Nodup)(ht:∀ i∈ids,d.pool.tk i=true)(hlt:∀ i,d.pool.tk i=true->i<d.pool.at_.length)(hc:(d.pool.many:Int)=Zaw d.pool.at_.length (fun i=>if d.pool.tk i=true then 1 else 0)):ids.length<=d.pool.many:=by
 have key:∀ (l:List Nat),l.Nodup->(∀ i∈l,d.pool.tk i=true)->∀ kk,(∀ i∈l,i<kk)->(l.length:Int)<=Zaw kk (fun i=>if d.pool.tk i=true then 1 else 0):=by
  intro l hl g0 kk
  induction kk generalizing l with
  | zero =>
    intro h;cases l with
    | nil=>simp[Zaw]
    | cons a l=>have:=h a (by simp);omega
  | succ kk ih =>
    intro h
    show (l.length:Int)<=Zaw kk (fun i=>if d.pool.tk i=true then 1 else 0)+(if d.pool.tk kk=true then 1 else 0)
    by_cases hm:kk∈l
    .
     have h1:=ih (l.erase kk) (hl.erase kk) (fun i hi=>g0 i (List.mem_of_mem_erase hi)) (fun i hi=>by
      have h2:=h i (List.mem_of_mem_erase hi);have h3:i≠kk:=fun e=>by subst e;exact(List.Nodup.not_mem_erase hl) hi
      omega)
     rw[List.length_erase_of_mem hm] at h1;have g1:0<l.length:=List.length_pos_of_mem hm;have:=g0 kk hm;simp only[this,if_true];omega
    .
     have h1:=ih l hl g0 (fun i hi=>by
      have h2:=h i hi;have h3:i≠kk:=fun e=>by subst e;exact hm hi
      omega)
     have:(0:Int)<=if d.pool.tk kk=true then 1 else 0:=by split<;>omega
     omega
 have:=key ids hn ht d.pool.at_.length (fun i hi=>hlt i (ht i hi));omega
theorem Zwo (ts:List TN):(ts.flatMap Zcl).length=2*ts.length:=by
 induction ts with
 | nil=>rfl
 | cons a l ih=>simp[List.flatMap_cons,Zcl,ih];omega
structure CutI (d0:Zag)(k x:Nat)(ids:List Nat)(sb:Nat)(s:Za7)(o1:Own)(w1:World)(base:Nat)(v:Value)(ts:List TN)(j:Nat)(W:World)(o:Own)(d:Zag):Prop where
 st:Zap o W sb d s
 lt:Zal o W
 cut:CutS d0 k x (fun i=>i∈ids.take j) d
 row:TRow W base v ts
 no:0<ts.length->∀ g,v.ownBlock=some g->o g=none
 chg:Chg Zar o1 o w1 W
theorem CutI.move {d0:Zag}{k x:Nat}{ids:List Nat}{sb:Nat}{s:Za7}{o1:Own}{w1:World}{base:Nat}{v:Value}{ts:List TN}{j:Nat}{W W':World}{o o':Own}{d d':Zag}{R:Role->Prop}(h:CutI d0 k x ids sb s o1 w1 base v ts j W o d)(st:Zap o' W' sb d' s)(hc:Chg R o o' W W')(hR:∀ r,R r->Zar r)(lt:Zal o' W'){j':Nat}(cut:CutS d0 k x (fun i=>i∈ids.take j') d') :
 CutI d0 k x ids sb s o1 w1 base v ts j' W' o' d' :=
 ⟨st,lt,cut,h.row.chg hc h.no,fun hp g hg=>hc.alien' (h.row.blk hp g hg).2 (h.no hp g hg),h.chg.trans (hc.mono hR)⟩
theorem CutS.congr {d0 d:Zag}{k x:Nat}{g g':Nat->Prop}(h:CutS d0 k x g d)(e:∀ i,g i↔g' i):CutS d0 k x g' d:=by
 have e':g=g':=funext fun i=>propext (e i)
 rw[<- e'];exact h
theorem Zn8 {o:Own}{w:World}{sb:Nat}{d:Zag}{V:Nat->BF}(st:Zax o w sb d)(hlt:Zal o w)(hk:Zaq d V)(k:Nat)(hk1:k+1<d.vars.length)(htop:∀ i,Za0 d i<=549755813888) :
 Calls prog 182 #[.pointer (some ⟨sb,0,none⟩),.int .i64 k] w fun q w'=>∃ o' d0,Zbi d d0/\Zal o' w'/\Chg Zar o o' w w' /\
  ((q=.returned (.int .i64 7)/\Zax o' w' sb d0/\d0.pool.room<3*d0.pool.many)\/(q=.returned (.int .i64 0)/\∃ d' V',Zax o' w' sb d'/\Zkn d0 V k d' V')):=by
 obtain⟨P,hP⟩:∃ P:Ending->World->Prop,P=fun q w'=>∃ o' d0,Zbi d d0/\Zal o' w'/\Chg Zar o o' w w' /\
  ((q=.returned (.int .i64 7)/\Zax o' w' sb d0/\d0.pool.room<3*d0.pool.many)\/(q=.returned (.int .i64 0)/\∃ d' V',Zax o' w' sb d'/\Zkn d0 V k d' V')):=⟨_,rfl⟩
 rw[<- hP];have kA:=Hd hP;clear hP;obtain⟨s0,h0⟩:=id st;obtain⟨c0,c1,c2,c3,c4,f0⟩:=cells5 h0.blk;obtain⟨l0,l1,_⟩:=cells2 h0.lev;obtain⟨gv,cv,gB,gS,_⟩:=h0.vars.shape (by omega);rw[gB] at l0;have HB:=hk.small;have kk:=Hd (Zkq st hlt hk);have HK:=Hd hk;have H2:¬ ((k:Int)>=(d.vars.length:Int)-1):=by omega
 have kL:=Hd htop;clear h0 gB st hlt hk gS htop c1 c2 c3 c4 f0 l1
 go_enter func182,ntmps182
 go_wp2_with fail;refine kk.out.mono ?_;rintro q w1 ⟨rfl,o1,d0,⟨s,h1⟩,hf,gG,kw⟩;have gR:=gG.ok HK.out;obtain⟨x,hx⟩:∃ x,x=d0.vars.getD k 0:=⟨_,rfl⟩;obtain⟨y,hy⟩:∃ y,y=d0.vars.getD (k+1) 0:=⟨_,rfl⟩;have kq:d0.vars.length=d.vars.length:=by rw[gG.vars]
 have FR:SwF d0 V k x y:=⟨⟨by omega,hx.symm,hy.symm⟩,gR,h1.len,fun i=>by
  cases hi:Zab d0 i with
  | none=>rw[Zes hi];omega
  | some b=>rw[gG.ext i b hi];exact kL.out i⟩
 have gi:=FR.facts.1;have H3:=FR.facts.2.1;obtain⟨c0,c1,c2,c3,c4,f0⟩:=cells5 h1.blk;obtain⟨l0,l1,_⟩:=cells2 h1.lev;obtain⟨gv,cv,gB,gS,_⟩:=h1.vars.shape (by omega);have r1:=h1.vars;rw[gB] at r1 l0;have a0:=r1.cell k (by simp;omega);have a1:=r1.cell (k+1) (by simp;omega);rw[Zfu (by omega),<- hx] at a0;rw[Zfu (by omega),<- hy] at a1;have Ha:(k:Int)<d0.vars.length:=by omega
 have H9:(k:Int)+1<d0.vars.length:=by omega
 have km:=Hd (Zy0 ⟨s,h1.below hf (Zaf w1 1)⟩ (hf.mono (Zaf w1 1).size) gR x y gi);have g1:=Hd FR;have H1:=Hd h1;have ki:=Hd hf;have kg:=Hd gG;have kG:=Hd kw;have Hy:d0.vars.length<=64:=by omega
 have HH:=Hd kq;have H6:IntKind.i64.wrap ((k:Int)+1)=((k+1:Nat):Int):=by rw[IntWalk.i64_in _ (by omega)];rfl
 clear h1 hf gG kw gR gB gS r1 hx hy FR kk kq H2;go_upto_region 6 with fail;refine Zam (fun W:World=>W.cell? ⟨sb,0,none⟩=some (.pointer (some ⟨s.lb,0,none⟩))/\W.cell? ⟨s.lb,0,none⟩=some (.slice (some ⟨gv,0,none⟩) d0.vars.length cv)/\W.cell? ⟨gv,k,none⟩=some (.int .i64 (x:Nat))/\W.cell? ⟨gv,k+1,none⟩=some (.int .i64 (y:Nat))) false 23 [(0,false),(1,false),(2,false),(3,false),(4,false),(5,false),(6,false),(7,false),(8,false),(9,false),(10,false),(11,false),(12,false),(13,false),(14,false),(15,false),(16,false),(17,false),(18,false),(19,false),(20,false),(21,false),(22,false)] (by kernel_rfl) (by kernel_rfl) ⟨c0,l0,a0,a1⟩ ?_;simp only[planned,Zcc]
 iterate 23
  refine Zaj rfl ?_;apply Exists.intro;refine⟨fun w' hw=>?_,?_⟩
  . obtain⟨h1,h2,h3,h4⟩:=hw;go_simp;rfl
  simp only[Zae]
 refine Zb8 ?_;go_wp2_with fail;refine km.out.mono ?_;rintro q w2 ⟨v,ids,rfl,hS,gU,gr,gp⟩;obtain⟨ts,h5⟩:∃ ts,ts=ids.map (tnOf d0 y):=⟨_,rfl⟩;rw[<- h5] at gr;have gm:Below w1.heap.size w1 w2:=⟨gp.os,gp.tape,gp.output,gp.size,fun q hq=>gp.block q hq⟩;have h2:=H1.out.below ki.out gm;have gK:=ki.out.mono gm.size;have hB:Hid (∀ i∈ids,∃ b,Zzx d0 V x y i b):=Hd fun i hi=>Zxg g1.out H1.out ((gU i).1 hi)
 have k9:∀ t∈ts,t.ll<eMax/\t.lh<eMax/\t.hl<eMax/\t.hh<eMax:=by
  intro t ht;rw[h5] at ht;obtain⟨i,hi,rfl⟩:=List.mem_map.1 ht;obtain⟨b,tb⟩:=hB.out i hi;have q1:=H1.out.edge_lt tb.val.f1.1;have q2:=H1.out.edge_lt tb.val.f2.1;have q3:=H1.out.edge_lt tb.val.f3.1;have q4:=H1.out.edge_lt tb.val.f4.1;unfold eMax;omega
 have hv:=Hd (Zxj h2 gK x gi gr k9);have kd:=Hd fun W (hb:Below w2.heap.size w2 W)=>Zn7 ⟨s,h2.below gK hb⟩
 have Hr:=Hd fun W (hb:Below w2.heap.size w2 W)=>Zqh ⟨s,h2.below gK hb⟩
 have HE:=H1.out.pool.many;have HC:=H1.out.pool.top;have HD:=H1.out.pool.room
 have Hu:Hid (ids.length<=d0.pool.many):=Hd (Zx2 hS (fun i hi=>by
  obtain⟨b,tb⟩:=hB.out i hi;exact(Za9 tb.node).1) (fun i hi=>(H1.out.pool.tk_lt hi).2) H1.out.pool.cnt)
 have kF:=Hd h2;have hG:=Hd gK;have HB2:=Hd gm;have gy:=Hd gr;have gX:=Hd gU;have kC:=Hd hS;have hA:=Hd h5;have HG:w1.heap.size<=w2.heap.size:=gm.size;clear gp gm h2 gK gr gU hS k9 c0 c1 c2 c3 c4 f0 l0 l1 a0 a1 Ha H9 H6 h5;go_wp2_with fail;refine hv.out.mono ?_;rintro q w3 ⟨Wt,rfl,hM,ho⟩;have gM:=Hd hM;have go:=Hd ho;have H7:Wt.length<=2*ts.length:=by have:=hM.len;rw[Zwo] at this;exact this
 have h6:ts.length=ids.length:=by rw[hA.out,List.length_map]
 have He:=Hu.out;have kM:=Hd (kd.out w3 ho);have kS:=Hd (Hr.out w3 ho);clear hM ho hv;go_wp2_with fail;refine kM.out.mono ?_;rintro q w' ⟨rfl,rfl⟩;go_wp2_with fail;refine kS.out.mono ?_;rintro q w' ⟨rfl,rfl⟩
 by_cases Hz:(Wt.length:Int)>(d0.pool.room:Int)-(d0.pool.many:Int)
 .
  have HF:Hid (P (.returned (.int .i64 7)) w3):=by
   rw[kA.out];exact Hd ⟨o1,d0,kg.out,hG.out.mono go.out.size,kG.out.trans ((Chg.of_below HB2.out _ _).trans (Chg.of_below go.out _ _)),.inl ⟨rfl,⟨s,kF.out.below hG.out go.out⟩,by omega⟩⟩
  clear h6;go_wp2_with fail;exact HF.out
 have kj:Hid (d0.pool.many+Wt.length<=d0.pool.room):=Hd (by omega);have h3:=kF.out.below hG.out go.out;have ku:=hG.out.mono go.out.size;obtain⟨c0,c1,c2,c3,c4,f0⟩:=cells5 h3.blk;have hC:=Hd (Zlu h3 k (by have:=g1.out.v.k1;exact this) g1.out.ok.small (by rw[h3.len];rw[g1.out.v.x];exact gi) (by rw[h3.len];rw[g1.out.v.y];exact H3));have HO:=Hd h3;have Ht:=Hd ku;clear h3 ku;go_wp2_with fail;refine hC.out.mono ?_;rintro q w4 ⟨rfl,h4,hn⟩;have h7:=(gy.out.below go.out);have gT:0<ts.length->∀ g,v.ownBlock=some g->o1 g=none:=fun hp g hg=>ki.out.none (gy.out.blk hp g hg).1
 have Hv:Hid (CutI d0 k x ids sb s o1 w1 w1.heap.size v ts 0 w4 o1 (Zep d0 k)):=Hd ⟨h4,Ht.out.mono hn.size,(CutS.start d0 k x).congr (fun i=>by simp),h7.chg hn gT,gT,(Chg.of_below HB2.out _ _).trans ((Chg.of_below go.out _ _).trans hn)⟩;obtain⟨av,cvv,kp,_⟩:=gy.out.ex;rw[h6] at kp;have hH:Hid (ids.length<=1048578):=Hd (by have:=gy.out.small;omega);clear h7 gT h4 hn hC c0 c1 c2 c3 c4 f0 He H7;subst kp;go_wp2_with fail
 go_loopw [77] (fun s77 wr=>∃ j:Nat,j<=ids.length/\s77=.int .i64 j/\Hid (∃ o d,CutI d0 k x ids sb s o1 w1 w1.heap.size (.slice av ids.length cvv) ts j wr o d)) (fun s77 _=>ids.length-(intOf s77).toNat)
 case atStart=>exact⟨0,Nat.zero_le _,rfl,Hd ⟨o1,_,Hv.out⟩⟩
 case round =>
  obtain⟨j,hj,rfl,HCI⟩:=hrel
  by_cases hlt:j<ids.length
  .
   obtain⟨oj,dj,g2⟩:=HCI.out;obtain⟨a',c',ea,g3⟩:=g2.row.ex;rw[h6] at ea;injection ea with ea1 ea2 ea3
   obtain⟨g,hg,_,g0⟩:=g3 j (by omega);rw[hg] at ea1;subst ea1;obtain⟨i,hi⟩:∃ i,i=ids[j]:=⟨_,rfl⟩;have gE:ts[j]'(by omega)=tnOf d0 y i:=by rw[hi];simp[hA.out]
   rw[gE] at g0;obtain⟨b,tb⟩:=hB.out i (by rw[hi];exact List.getElem_mem hlt);have gD:tnOf d0 y i=⟨d0.pool.nd i,(tnOf d0 y i).ll,(tnOf d0 y i).lh,(tnOf d0 y i).hl,(tnOf d0 y i).hh⟩:=rfl;obtain⟨N,hN⟩:∃ N,N=d0.pool.nd i:=⟨_,rfl⟩;obtain⟨ll,ga⟩:∃ q,q=(tnOf d0 y i).ll:=⟨_,rfl⟩;obtain⟨lh,gc⟩:∃ q,q=(tnOf d0 y i).lh:=⟨_,rfl⟩;obtain⟨hl,gd⟩:∃ q,q=(tnOf d0 y i).hl:=⟨_,rfl⟩;obtain⟨hh,ge⟩:∃ q,q=(tnOf d0 y i).hh:=⟨_,rfl⟩;rw[gD,<- hN,<- ga,<- gc,<- gd,<- ge] at g0;have e0:wr.cell? ⟨g,j*9,none⟩=some _:=g0 0 _ rfl;have e1:=g0 1 _ rfl;have e2:=g0 2 _ rfl;have e3:=g0 3 _ rfl;have e4:=g0 4 _ rfl;have e5:=g0 5 _ rfl;have e6:=g0 6 _ rfl;have e7:=g0 7 _ rfl;have e8:=g0 8 _ rfl;have hW:N.lo=b.lo:=by rw[hN];exact tb.lo
   have hX:N.hi=b.hi:=by rw[hN];exact tb.hi
   have HA:=Hd g2;have HL:=Hd hi;have gn:=Hd tb;have HJ:=Hd hW;have HM:=Hd hX;have Hb:(j:Int)<ids.length:=by omega
   have Hf:=hH.out;have Hc:(j:Int)+1<=1048578:=by omega
   have gi:=g1.out.facts.1;have hQ:d0.tab x (N.lo,N.hi)=some i:=by
    rw[hW,hX];refine(g1.out.ok.tab x gi _ _ _).2 ?_;rw[tb.node,<- tb.v]
   have gH:¬ i∈ids.take j:=by
    intro hm;have gI:=kC.out;rw[<- List.take_append_drop j ids,List.nodup_append] at gI;refine gI.2.2 i hm i ?_ rfl;rw[List.drop_eq_getElem_cons hlt,hi];exact List.mem_cons_self
   have kv:dj.tab x (N.lo,N.hi)=some i:=g2.cut.has hQ gH;have hO:x<dj.vars.length:=by rw[g2.cut.vars,Zi0];exact gi
   have Hh:(fun u=>if u=x then putF (dj.tab u) (N.lo,N.hi) none else dj.tab u)=(fun u=>if u=x then putF (dj.tab x) (N.lo,N.hi) none else dj.tab u):=by funext u;by_cases e:u=x<;>simp[e]
   have kQ:Hid (CutS d0 k x (fun q=>q∈ids.take (j+1)) { dj with tab:=fun u=>if u=x then putF (dj.tab x) (N.lo,N.hi) none else dj.tab u }):=Hd (by
    have q1:=(g2.cut.next g1.out.ok gi hQ).congr (g':=fun q=>q∈ids.take (j+1)) (fun q=>by
     rw[List.take_succ_eq_append_getElem hlt,List.mem_append,List.mem_singleton,hi])
    rw[Hh] at q1;exact q1)
   obtain⟨wz,g7⟩:∃ W,W=wr.alloc (.cells #[.int .i64 N.id,.int .i64 N.v,.int .i64 N.lo,.int .i64 N.hi,.int .i64 N.refs,.int .i64 ll,.int .i64 lh,.int .i64 hl,.int .i64 hh] 279):=⟨_,rfl⟩;have gf:Below wr.heap.size wr wz:=by rw[g7];exact Zad wr _
   have hz:=heap_alloc_new wr (.cells #[.int .i64 N.id,.int .i64 N.v,.int .i64 N.lo,.int .i64 N.hi,.int .i64 N.refs,.int .i64 ll,.int .i64 lh,.int .i64 hl,.int .i64 hh] 279);rw[<- g7] at hz;have z2:wz.cell? ⟨wr.heap.size,2,none⟩=some (.int .i64 N.lo):=by rw[cell_of_row wz _ 2 _ _ _ hz];rfl
   have z3:wz.cell? ⟨wr.heap.size,3,none⟩=some (.int .i64 N.hi):=by rw[cell_of_row wz _ 3 _ _ _ hz];rfl
   have g8:=g2.st.below g2.lt gf;have gk:=g2.lt.mono gf.size;obtain⟨gt,ct,gC,cellx,H8⟩:=g8.tabAt hO;obtain⟨c0,c1,c2,c3,c4,f0⟩:=cells5 g8.blk;rw[gC] at c2;have ko:x<s.ts.length:=by rw[g8.tlen];exact hO
   have H5:(x:Int)<s.ts.length:=by omega
   have kU:=Hd (Zvd oj x (s.ts.getD x 0) (dj.tab x) N.lo N.hi i wz.drew ((g8.below gk (Zaf wz 1)).tab x ko) (gk.mono (Zaf wz 1).size) kv);have gY:Hid (CutI d0 k x ids sb s o1 w1 w1.heap.size (.slice (some ⟨g,0,none⟩) ids.length cvv) ts j wz.drew oj dj):=Hd (g2.move ((g8.below gk (Zaf wz 1))) (Chg.of_below (gf.trans ((Zaf wz 1).mono gf.size)) Zar oj) (fun _ h=>h) (gk.mono (Zaf wz 1).size) g2.cut);have ka:=Hd g7;have gN:=Hd hlt;clear g3 g0 gE gD g2 tb hN ga gc gd ge hi hW hX HCI hQ gH kv hO gf hz g8 gk gC ko g7 c0 c1 c3 c4 f0;go_upto_region 14 with fail;rw[<- ka.out];refine Zam (fun W:World=>W=wz.drew) true 13 [(0,false),(1,false),(2,false),(3,false),(4,false),(5,false),(6,false),(7,false),(8,false),(9,false),(10,false),(11,false),(12,false),(13,true)] (by kernel_rfl) (by kernel_rfl) rfl ?_;simp only[planned,Zcc]
   iterate 13
    refine Zaj rfl ?_;apply Exists.intro;refine⟨fun w' hw=>?_,?_⟩
    . subst hw;go_simp;rfl
    simp only[Zae]
   refine Zd8 rfl (by go_simp) (kU.out.mono (R':=fun e w'=>∃ v,e=.returned v/\(v=.int .i64 0/\Zdk oj w' x (s.ts.getD x 0) (putF (dj.tab x) (N.lo,N.hi) none)/\Chg (· = .tmap x) oj oj wz.drew w'/\Zal oj w')) (fun e w' h=>⟨_,h.1,rfl,h.2⟩)) ?_;rintro _ w5 ⟨rfl,kr,k5,kt⟩;simp only[Zae];refine Zbz ?_;have hE:=Hd (gY.out.move (gY.out.st.setTab gY.out.lt kr k5) k5 (fun r hr=>by simp[Zar,hr]) kt kQ.out);clear kr k5 kt c2 cellx H5 e0 e1 e2 e3 e4 e5 e6 e7 e8 z2 z3;go_wp2_with fail;go_roundw
   case rel=>exact⟨j+1,Nat.succ_le_of_lt gN.out,by go_num,Hd ⟨_,_,hE.out⟩⟩
   case measure =>
    have:=gN.out;have:=hH.out;simp[intOf];omega
  .
   obtain rfl:j=ids.length:=by omega
   obtain⟨oe,de,gl⟩:=HCI.out;have ke:Hid (∃ o d V',RndI sb o1 w1 w1.heap.size (.slice av ids.length cvv) ts wr o d/\Zb0 d0 V k x y Wt (Za0 d0) (fun i=>i∈ids.take 0) d V'):=Hd ⟨oe,de,V,⟨⟨s,gl.st⟩,gl.lt,gl.row,gl.no,gl.chg⟩,(Zb0.start gl.cut g1.out.ok g1.out.facts.1 kg.out.dead (fun i=>by rw[List.take_length];exact(gX.out i).symm) gM.out).congr (fun i=>by simp)⟩;clear gl HCI;go_wp2_with fail
   go_loopw [98] (fun s98 wr=>∃ j:Nat,j<=ids.length/\s98=.int .i64 j/\Hid (∃ o d V',RndI sb o1 w1 w1.heap.size (.slice av ids.length cvv) ts wr o d/\Zb0 d0 V k x y Wt (Za0 d0) (fun i=>i∈ids.take j) d V')) (fun s98 _=>ids.length-(intOf s98).toNat)
   case atStart=>exact⟨0,Nat.zero_le _,rfl,ke⟩
   case round =>
    clear ke;obtain⟨j,hj,rfl,hD⟩:=hrel
    by_cases hlt:j<ids.length
    .
     obtain⟨oj,dj,Vj,gF,gj⟩:=hD.out;obtain⟨a',c',ea,g3⟩:=gF.row.ex;rw[h6] at ea;injection ea with ea1 ea2 ea3
     clear ea2 ea3;obtain⟨g,hg,Hg,g0⟩:=g3 j (by omega);rw[hg] at ea1;subst ea1;obtain⟨i,hi⟩:∃ i,i=ids[j]:=⟨_,rfl⟩;have gE:ts[j]'(by omega)=tnOf d0 y i:=by rw[hi];simp[hA.out]
     rw[gE] at g0;have gh:i∈ids:=by rw[hi];exact List.getElem_mem hlt
     obtain⟨b,tb⟩:=hB.out i gh;have gD:tnOf d0 y i=⟨d0.pool.nd i,(tnOf d0 y i).ll,(tnOf d0 y i).lh,(tnOf d0 y i).hl,(tnOf d0 y i).hh⟩:=rfl
     have kh:Hid (((tnOf d0 y i).ll,(tnOf d0 y i).hl)∈ts.flatMap Zcl/\((tnOf d0 y i).lh,(tnOf d0 y i).hh)∈ts.flatMap Zcl):=Hd (by
      have hm:tnOf d0 y i∈ts:=by rw[hA.out];exact List.mem_map.2 ⟨i,gh,rfl⟩
      exact⟨List.mem_flatMap.2 ⟨_,hm,by simp[Zcl]⟩,List.mem_flatMap.2 ⟨_,hm,by simp[Zcl]⟩⟩)
     obtain⟨N,hN⟩:∃ N,N=d0.pool.nd i:=⟨_,rfl⟩;obtain⟨ll,ga⟩:∃ q,q=(tnOf d0 y i).ll:=⟨_,rfl⟩;obtain⟨lh,gc⟩:∃ q,q=(tnOf d0 y i).lh:=⟨_,rfl⟩;obtain⟨hl,gd⟩:∃ q,q=(tnOf d0 y i).hl:=⟨_,rfl⟩;obtain⟨hh,ge⟩:∃ q,q=(tnOf d0 y i).hh:=⟨_,rfl⟩;rw[gD,<- hN,<- ga,<- gc,<- gd,<- ge] at g0;rw[<- ga,<- gc,<- gd,<- ge] at kh;have e0:wr.cell? ⟨g,j*9,none⟩=some _:=g0 0 _ rfl;have e1:=g0 1 _ rfl;have e2:=g0 2 _ rfl;have e3:=g0 3 _ rfl;have e4:=g0 4 _ rfl;have e5:=g0 5 _ rfl;have e6:=g0 6 _ rfl;have e7:=g0 7 _ rfl;have e8:=g0 8 _ rfl;have gH:¬ i∈ids.take j:=by
      intro hm;have gI:=kC.out;rw[<- List.take_append_drop j ids,List.nodup_append] at gI;refine gI.2.2 i hm i ?_ rfl;rw[List.drop_eq_getElem_cons hlt,hi];exact List.mem_cons_self
     obtain⟨wz,g7⟩:∃ W,W=wr.alloc (.cells #[.int .i64 N.id,.int .i64 N.v,.int .i64 N.lo,.int .i64 N.hi,.int .i64 N.refs,.int .i64 ll,.int .i64 lh,.int .i64 hl,.int .i64 hh] 279):=⟨_,rfl⟩;have gf:Below wr.heap.size wr wz.drew:=by rw[g7];exact Zei wr 1 _
     have hz:=heap_alloc_new wr (.cells #[.int .i64 N.id,.int .i64 N.v,.int .i64 N.lo,.int .i64 N.hi,.int .i64 N.refs,.int .i64 ll,.int .i64 lh,.int .i64 hl,.int .i64 hh] 279);rw[<- g7] at hz;obtain⟨bz,gw⟩:∃ q,q=wr.heap.size:=⟨_,rfl⟩;rw[<- gw] at hz;have z5:wz.cell? ⟨bz,5,none⟩=some (.int .i64 ll):=by rw[cell_of_row wz _ 5 _ _ _ hz];rfl
     have z6:wz.cell? ⟨bz,6,none⟩=some (.int .i64 lh):=by rw[cell_of_row wz _ 6 _ _ _ hz];rfl
     have z7:wz.cell? ⟨bz,7,none⟩=some (.int .i64 hl):=by rw[cell_of_row wz _ 7 _ _ _ hz];rfl
     have z8:wz.cell? ⟨bz,8,none⟩=some (.int .i64 hh):=by rw[cell_of_row wz _ 8 _ _ _ hz];rfl
     have kX:Hid (Box oj wz.drew bz (.cells #[.int .i64 N.id,.int .i64 N.v,.int .i64 N.lo,.int .i64 N.hi,.int .i64 N.refs,.int .i64 ll,.int .i64 lh,.int .i64 hl,.int .i64 hh] 279 (0,0))):=Hd ⟨hz,gF.lt.none (by rw[gw];exact Nat.le_refl _)⟩;have kc:=Hd (gF.below gf)
     have hI:Hid (w1.heap.size<=bz/\g≠bz):=Hd (by
      have h1:=gF.chg.size;have h2:g<wr.heap.size:=Zaa e0;exact⟨by omega,by omega⟩)
     have tv:=tb.val;rw[<- ga,<- gc,<- gd,<- ge] at tv;have kH:=Hd (Zol kc.out.st kc.out.lt gj g1.out.ok.dag (gj.acy g1.out) g1.out.facts.1 gj.vlen ll hl tv.f1 tv.f3 (fun h1 h2=>Zsq gj g1.out gM.out kh.out.1 tv.f1 tv.f3 h1 h2) gM.out.nodup kj.out);have HB2:Hid (∀ W o d V',Zax o W sb d->Zal o W->Zb0 d0 V k x y Wt (Za0 d0) (fun i=>i∈ids.take j) d V'->_):=Hd (fun W o d V' st lt m=>Zol st lt m g1.out.ok.dag (m.acy g1.out) g1.out.facts.1 m.vlen lh hh tv.f2 tv.f4 (fun h1 h2=>Zsq m g1.out gM.out kh.out.2 tv.f2 tv.f4 h1 h2) gM.out.nodup kj.out)
     have kn:Hid (∀ r1 r2 d1 d2 V1 V2,Zgj d0 V k x y Wt (fun i=>i∈ids.take j) dj Vj ll hl r1 d1 V1->Zgj d0 V k x y Wt (fun i=>i∈ids.take j) d1 V1 lh hh r2 d2 V2->Zul d0 V k x y Wt (fun i=>i∈ids.take j) i r1 r2 d2 V2):=Hd (by
      intro r1 r2 d1 d2 V1 V2 h1 h2;rw[ga,gd] at h1;rw[gc,ge] at h2;exact Zul.of g1.out tb h1 h2)
     have HN:Hid (N.lo=b.lo/\N.hi=b.hi/\N.id=i/\(N.refs:Int)=Za0 d0 i):=Hd (by rw[hN];exact⟨tb.lo,tb.hi,tb.id,(Zcq (Za9 tb.node).1).symm⟩);have HT:Hid (Turns (Zab d0) x y i):=Hd ((gX.out i).1 gh);have kB:=Hd gH;have gn:=Hd tb;have Hl:Hid (∀ q,(q∈ids.take j\/q=i)↔q∈ids.take (j+1)):=Hd (fun q=>by rw[List.take_succ_eq_append_getElem hlt,List.mem_append,List.mem_singleton,hi]);have Hb:(j:Int)<ids.length:=by omega
     have Hf:=hH.out;have Hc:(j:Int)+1<=1048578:=by omega
     have ka:=Hd g7;have Hx:=Hd gw;have gN:=Hd hlt;clear g3 g0 gE gD gF gj tb tv hN ga gc gd ge hi hD gH gf hz g7 gw gh Hg;go_upto_region 19 with fail;rw[<- Hx.out,<- ka.out];clear e0 e1 e2 e3 e4 e5 e6 e7 e8;refine Zam (fun W:World=>W.cell? ⟨bz,5,none⟩=some (.int .i64 ll)/\W.cell? ⟨bz,6,none⟩=some (.int .i64 lh)/\W.cell? ⟨bz,7,none⟩=some (.int .i64 hl)/\W.cell? ⟨bz,8,none⟩=some (.int .i64 hh)) false 16 [(0,false),(1,false),(2,false),(3,false),(4,false),(5,false),(7,false),(8,false),(9,false),(10,false),(11,false),(12,false),(6,true),(13,true),(14,false),(15,false)] (by kernel_rfl) (by kernel_rfl) ⟨z5,z6,z7,z8⟩ ?_;simp only[planned,Zcc]
     iterate 12
      refine Zaj rfl ?_;apply Exists.intro;refine⟨fun w' hw=>?_,?_⟩
      . obtain⟨q5,q6,q7,q8⟩:=hw;go_simp;rfl
      simp only[Zae]
     refine Zb6 (R:=fun v w'=>∃ r:Nat,v=.int .i64 r/\∃ o' d' V',RndI sb o1 w1 w1.heap.size (.slice (some ⟨g,0,none⟩) ids.length cvv) ts w' o' d'/\Zgj d0 V k x y Wt (fun i=>i∈ids.take j) dj Vj ll hl r d' V'/\Box o' w' bz (.cells #[.int .i64 N.id,.int .i64 N.v,.int .i64 N.lo,.int .i64 N.hi,.int .i64 N.refs,.int .i64 ll,.int .i64 lh,.int .i64 hl,.int .i64 hh] 279 (0,0))) rfl (by go_simp) (kH.out.mono (fun e w' he=>?_)) ?_
     . obtain⟨r,rfl,o',d',V',st',lt',k8,kJ,gL⟩:=he;have g4:=kX.out.chg gL;exact⟨_,rfl,⟨g4.cell 5,g4.cell 6,g4.cell 7,g4.cell 8⟩,r,rfl,o',d',V',kc.out.move st' lt' gL (fun _ h=>h),k8,g4⟩
     rintro v w5-⟨r1,rfl,o5,d5,V5,hc,gV,k7⟩;simp only[Zae];refine Zb6 (R:=fun v w'=>∃ r:Nat,v=.int .i64 r/\∃ o' d' V',RndI sb o1 w1 w1.heap.size (.slice (some ⟨g,0,none⟩) ids.length cvv) ts w' o' d'/\Zul d0 V k x y Wt (fun i=>i∈ids.take j) i r1 r d' V'/\Box o' w' bz (.cells #[.int .i64 N.id,.int .i64 N.v,.int .i64 N.lo,.int .i64 N.hi,.int .i64 N.refs,.int .i64 ll,.int .i64 lh,.int .i64 hl,.int .i64 hh] 279 (0,0))) rfl (by go_simp) ((HB2.out w5 o5 d5 V5 hc.st hc.lt gV.mid).mono (fun e w' he=>?_)) ?_
     . obtain⟨r,rfl,o',d',V',st',lt',k8,kJ,gL⟩:=he;have g4:=k7.chg gL;exact⟨_,rfl,⟨g4.cell 5,g4.cell 6,g4.cell 7,g4.cell 8⟩,r,rfl,o',d',V',hc.move st' lt' gL (fun _ h=>h),kn.out _ _ _ _ _ _ gV k8,g4⟩
     rintro v w6-⟨r2,rfl,o6,d6,V6,ha,gg,k6⟩;simp only[Zae]
     iterate 2
      refine Zaj rfl ?_;apply Exists.intro;refine⟨fun w' hw=>?_,?_⟩
      . obtain⟨q5,q6,q7,q8⟩:=hw;go_simp;rfl
      simp only[Zae]
     refine Zb8 ?_;have Hn:=Hd ha;have gq:=Hd gg;have kW:=Hd k6;have Hp:=Hd (Zr7 ha.st ha.lt g1.out gg.mid gg.e1 (fun i=>by have:=g1.out.top i;omega));clear ha gg k6 hc gV k7 z5 z6 z7 z8 kH HB2;go_wp2_with fail;refine Hp.out.mono ?_;rintro q w7 ⟨rfl,d7,st7,lt7,m7,n7,p7,c7⟩;have Hm:=Hd (Hn.out.move st7 lt7 c7 (fun _ h=>h));have kV:=Hd (kW.out.chg c7)
     have Ho:=Hd (Zr7 st7 lt7 g1.out m7 (n7 ▸ gq.out.e2) (fun i=>by
      have:=g1.out.top i;have h2:toE r1 i<=1:=by unfold toE;split<;>omega
      unfold addE;omega))
     have kE:Hid (Zab d7=Zab d6/\d7.pool=d6.pool):=Hd ⟨n7,p7⟩;clear st7 lt7 m7 n7 p7 c7;go_wp2_with fail;refine Ho.out.mono ?_;rintro q w8 ⟨rfl,d8,st8,lt8,m8,n8,p8,c8⟩;have kz:=Hd (Hm.out.move st8 lt8 c8 (fun _ h=>h));have g6:=Hd (kV.out.chg c8);have hF:=Hd m8;have kD:Hid (Zab d8=Zab d6/\d8.pool=d6.pool):=Hd ⟨n8.trans kE.out.1,p8.trans kE.out.2⟩;clear st8 lt8 m8 n8 p8 c8;have x0:w8.cell? ⟨bz,0,none⟩=some (.int .i64 N.id):=g6.out.cell 0;have x1:w8.cell? ⟨bz,1,none⟩=some (.int .i64 N.v):=g6.out.cell 1;have x2:w8.cell? ⟨bz,2,none⟩=some (.int .i64 N.lo):=g6.out.cell 2;have x3:w8.cell? ⟨bz,3,none⟩=some (.int .i64 N.hi):=g6.out.cell 3;have x4:w8.cell? ⟨bz,4,none⟩=some (.int .i64 N.refs):=g6.out.cell 4;have xf:∀ q,w8.frozen? ⟨bz,q,none⟩=false:=fun q=>by simp[World.frozen?,g6.out.blk]
     go_upto_region 23 with fail;obtain⟨wo,gZ⟩:∃ W,W=w8.alloc (.cells #[.int .i64 N.id,.int .i64 N.v,.int .i64 N.lo,.int .i64 N.hi,.int .i64 N.refs] 254):=⟨_,rfl⟩;have gg:Below w8.heap.size w8 wo:=by rw[gZ];exact Zad w8 _
     have hd:=heap_alloc_new w8 (.cells #[.int .i64 N.id,.int .i64 N.v,.int .i64 N.lo,.int .i64 N.hi,.int .i64 N.refs] 254);rw[<- gZ] at hd;obtain⟨bo,gx⟩:∃ q,q=w8.heap.size:=⟨_,rfl⟩;rw[<- gx] at hd;have gJ:bz≠bo:=by
      have:=Zaa x0;have h2:bz<w8.heap.size:=this;omega
     have g5:Hid (Box o6 wo bz (.cells #[.int .i64 N.id,.int .i64 N.v,.int .i64 N.lo,.int .i64 N.hi,.int .i64 N.refs,.int .i64 ll,.int .i64 lh,.int .i64 hl,.int .i64 hh] 279 (0,0))):=Hd (g6.out.chg (Chg.of_below gg Zar o6));have kd:=Hd (kz.out.below gg);have kY:Hid (Box o6 wo bo (.cells #[.int .i64 N.id,.int .i64 N.v,.int .i64 N.lo,.int .i64 N.hi,.int .i64 N.refs] 254 (0,0))):=Hd ⟨hd,kz.out.lt.none (by rw[gx];exact Nat.le_refl _)⟩;obtain⟨wa,gA⟩:∃ W,W=(wo.setCell ⟨bz,1,none⟩ (.int .i64 y)).setCell ⟨bz,2,none⟩ (.int .i64 r1):=⟨_,rfl⟩;obtain⟨wb,gz⟩:∃ W,W=wa.setCell ⟨bz,3,none⟩ (.int .i64 r2):=⟨_,rfl⟩;have HV:∀ q,0<ts.length->Value.ownBlock (.slice (some ⟨g,0,none⟩) ids.length cvv)=some q->q≠bz:=fun q _ hq=>by cases hq;exact hI.out.2
     have ky:Hid (RndI sb o1 w1 w1.heap.size (.slice (some ⟨g,0,none⟩) ids.length cvv) ts wb.drew o6 d8):=Hd (by
      rw[gz,gA];exact(((kd.out.write g5.out.no hI.out.1 HV 1 _).write g5.out.no hI.out.1 HV 2 _).write g5.out.no hI.out.1 HV 3 _).below (Zaf _ 1))
     have kl:=HN.out.2.2.2
     have g9:Hid (Box o6 wb.drew bz (.cells #[.int .i64 i,.int .i64 y,.int .i64 r1,.int .i64 r2,.int .i64 N.refs,.int .i64 ll,.int .i64 lh,.int .i64 hl,.int .i64 hh] 279 (0,0))):=Hd (by
      rw[gz,gA];have h:=((g5.out.set 1 (.int .i64 y)).set 2 (.int .i64 r1)).set 3 (.int .i64 r2);rw[HN.out.2.2.1] at h;exact⟨h.blk,h.no⟩)
     have H0:Hid (Box o6 wb.drew bo (.cells #[.int .i64 i,.int .i64 N.v,.int .i64 b.lo,.int .i64 b.hi,.int .i64 N.refs] 254 (0,0))):=Hd (by
      rw[gz,gA];have h:=((kY.out.other (p:=⟨bz,1,none⟩) (u:=.int .i64 y) (Ne.symm gJ)).other (p:=⟨bz,2,none⟩) (u:=.int .i64 r1) (Ne.symm gJ)).other (p:=⟨bz,3,none⟩) (u:=.int .i64 r2) (Ne.symm gJ);rw[HN.out.2.2.1,HN.out.1,HN.out.2.1] at h;exact⟨h.blk,h.no⟩)
     have y1:wo.cell? ⟨bz,1,none⟩=some (.int .i64 N.v):=g5.out.cell 1;have y2:wo.cell? ⟨bz,2,none⟩=some (.int .i64 N.lo):=g5.out.cell 2;have y3:wo.cell? ⟨bz,3,none⟩=some (.int .i64 N.hi):=g5.out.cell 3;have yf:∀ q,wo.frozen? ⟨bz,q,none⟩=false:=fun q=>by simp[World.frozen?,g5.out.blk]
     have Hi:=Hd gZ;have kZ:=Hd gx;have Hk:=Hd gA;have Hj:=Hd gz;have HI:=Hd gJ;clear gZ gg hd gx gJ gA gz HV kl x0 x1 x2 x3 x4 xf;rw[<- Hi.out,<- kZ.out];go_upto_region 24 with fail;rw[<- Hk.out,<- Hj.out];obtain⟨s9,h9⟩:=ky.out.st;obtain⟨k0,k1,k2,k3,k4,kf⟩:=cells5 h9.blk;have hY:d8.pool.tk i=true:=by
      have h1:Zab d8 i=some b:=hF.out.mid.keep i b gn.out.node kB.out;exact(Za9 h1).1
     have kx:=Hd (hF.out.turned (n:=⟨i,y,r1,r2,N.refs⟩) g1.out HT.out kB.out gn.out.node (kD.out.1 ▸ gq.out.e1) (kD.out.1 ▸ gq.out.e2) gq.out.reg gq.out.ne gq.out.val rfl HN.out.2.2.2 (h9.pool.tk_lt hY).2);have kb:=Hd (Zy2 (n:=⟨i,y,r1,r2,N.refs⟩) ky.out h9 hY g9.out H0.out);unfold Za6 at kb;have n0:wb.cell? ⟨bz,0,none⟩=some (.int .i64 i):=g9.out.cell 0;have n1:wb.cell? ⟨bz,1,none⟩=some (.int .i64 y):=g9.out.cell 1;have n2:wb.cell? ⟨bz,2,none⟩=some (.int .i64 r1):=g9.out.cell 2;have n3:wb.cell? ⟨bz,3,none⟩=some (.int .i64 r2):=g9.out.cell 3;have n4:wb.cell? ⟨bz,4,none⟩=some (.int .i64 N.refs):=g9.out.cell 4;have k1':wb.cell? ⟨sb,1,none⟩=some (.pointer (some ⟨s9.pb,0,none⟩)):=k1;have Hs:Hid (s9.ts.length=d0.vars.length):=Hd (by rw[h9.tlen,hF.out.vlen]);clear k0 k1 k2 k3 k4 kf h9 hY y1 y2 y3 yf;refine Zam (fun W:World=>W=wb.drew) true 6 [(0,false),(1,false),(2,false),(3,false),(4,false),(5,false),(6,true)] (by kernel_rfl) (by kernel_rfl) rfl ?_;simp only[planned,Zcc]
     iterate 6
      refine Zaj rfl ?_;apply Exists.intro;refine⟨fun w' hw=>?_,?_⟩
      . subst hw;go_simp;rfl
      simp only[Zae]
     refine Zd8 rfl (by go_simp) kb.out ?_;rintro _ w10 ⟨rfl,gQ,hu,gP,hL⟩;simp only[Zae];refine Zbz ?_;clear n0 n1 n2 n3 n4 k1';have hZ:=hu.below gQ.lt (Zaf w10 1);have hJ:y<s9.ts.length:=by rw[Hs.out];exact g1.out.facts.2.1
     have H4:(y:Int)<s9.ts.length:=by omega
     obtain⟨gt,ct,gC,celly,H8⟩:=hu.tabAt (v:=y) (by show y<d8.vars.length;rw[hF.out.vlen];exact g1.out.facts.2.1);obtain⟨k0,k1,k2,k3,k4,kf⟩:=cells5 hu.blk;rw[gC] at k2;have kP:=Hd (Zy1 (id:=i) (gQ.below (Zaf w10 1)) hZ hJ kx.out.1 (gP.chg (Chg.of_below (Zaf w10 1) Zar o6)) (hL.chg (Chg.of_below (Zaf w10 1) Zar o6)));have n0:w10.cell? ⟨bz,0,none⟩=some (.int .i64 i):=gP.cell 0;clear gQ hu gP hL hZ gC k0 k1 k3 k4 kf hJ;go_upto_region 25 with fail;refine Zam (fun W:World=>W=w10.drew) true 12 [(0,false),(1,false),(2,false),(3,false),(4,false),(5,false),(6,false),(7,false),(8,false),(9,false),(10,false),(11,false),(12,true)] (by kernel_rfl) (by kernel_rfl) rfl ?_;simp only[planned,Zcc]
     iterate 12
      refine Zaj rfl ?_;apply Exists.intro;refine⟨fun w' hw=>?_,?_⟩
      . subst hw;go_simp;rfl
      simp only[Zae]
     refine Zd8 rfl (by go_simp) kP.out ?_;rintro _ w11 ⟨rfl,gu,kI,gO⟩;simp only[Zae];refine Zbz ?_;have kO:=Hd gu;have kK:=Hd gO
     have Hq:=Hd (Zr6 gu.st gu.lt g1.out kx.out.2 gn.out.node gn.out.v (.inl rfl) (fun q=>by
      have h1:=g1.out.top q;have h2:toE b.lo q<=1:=by unfold toE;split<;>omega
      have h3:toE b.hi q<=1:=by unfold toE;split<;>omega
      unfold addE;omega) (fun q=>by
      have h1:0<=Za0 d0 q:=by unfold Za0;split<;>omega
      have h3:0<=toE b.hi q:=by unfold toE;split<;>omega
      unfold addE;omega))
     have u2:w11.cell? ⟨bo,2,none⟩=some (.int .i64 b.lo):=gO.cell 2;clear gu kI gO n0 k2 celly H4;go_wp2_with fail;refine Hq.out.mono ?_;rintro q w12 ⟨rfl,d12,st12,lt12,m12,c12⟩;have kN:=Hd (kO.out.move st12 lt12 c12 (fun _ h=>h));have hK:=kK.out.chg c12
     have kR:=Hd (Zr6 st12 lt12 g1.out m12 gn.out.node gn.out.v (.inr rfl) (fun q=>by
      have h1:=g1.out.top q;have h2:toE b.lo q<=1:=by unfold toE;split<;>omega
      have h3:toE b.hi q<=1:=by unfold toE;split<;>omega
      have h4:0<=toE b.lo q:=by unfold toE;split<;>omega
      unfold addE;omega) (fun q=>by
      have h1:0<=Za0 d0 q:=by unfold Za0;split<;>omega
      unfold addE;omega))
     have u3:w12.cell? ⟨bo,3,none⟩=some (.int .i64 b.hi):=hK.cell 3;clear st12 lt12 m12 c12 hK u2;go_wp2_with fail;refine kR.out.mono ?_;rintro q w13 ⟨rfl,d13,st13,lt13,m13,c13⟩;rw[Zus] at m13;have hE:=Hd (And.intro (kN.out.move st13 lt13 c13 (fun _ h=>h)) (m13.congr Hl.out));clear st13 lt13 m13 c13 u3;go_wp2_with fail;go_roundw
     case rel=>exact⟨j+1,Nat.succ_le_of_lt gN.out,by go_num,Hd ⟨_,_,_,hE.out.1,hE.out.2⟩⟩
     case measure =>
      have:=gN.out;have:=hH.out;simp[intOf];omega
    .
     obtain rfl:j=ids.length:=by omega
     obtain⟨oe,de,Ve,h8,hU⟩:=hD.out;have hR:=hU.final g1.out.v g1.out.ok g1.out.lev (fun i hT=>by rw[List.take_length];exact(gX.out i).2 hT);have Hw:=Hd (Zkq h8.st h8.lt hR)
     have kT:Hid (∀ w' o' d',Zax o' w' sb d'->Zal o' w'->Zbi de d'->Chg Zar oe o' wr w'->P (.returned (.int .i64 0)) w'):=Hd (by
      intro w' o' d' st' lt' cr' ch';rw[kA.out];exact⟨o',d0,kg.out,lt',kG.out.trans (h8.chg.trans ch'),.inr ⟨rfl,d',Ve,st',hU.out hR cr'⟩⟩)
     clear h8 hU hR hD;go_wp2_with fail;refine Hw.out.mono ?_;rintro q w14 ⟨rfl,o14,d14,st14,lt14,cr14,ch14⟩;have HF:=Hd (kT.out w14 o14 d14 st14 lt14 cr14 ch14);clear st14 lt14 cr14 ch14;go_wp2_with fail;exact HF.out
open Go.RowKit
section
variable {m:ManD}{V V':Nat->BF}{d0 d':Zag}{k:Nat}
theorem Zca.big (h:Zca m){p:Int×Nat}(hp:p∈m.hs):p.2/2=0\/1<p.1:=by
 by_cases h1:1<p.1
 . exact .inr h1
 .
  left;have g1:=h.lt p hp;have hu:∀ q∈m.hs,q.1=p.1->q=p:=by
   intro q hq e;have g0:=h.nodup;have h1:=Zdl (l:=encH m.hs) (Zer g0) (List.mem_map.2 ⟨q,hq,rfl⟩);have h2:=Zdl (l:=encH m.hs) (Zer g0) (List.mem_map.2 ⟨p,hp,rfl⟩);rw[e,h2] at h1;have e2:(p.2:Int)=(q.2:Int):=by injection h1 with h1;injection h1
   exact Prod.ext e (by omega)
  rcases(by omega:p.1=0\/p.1=1) with e|e
  . rw[<- hu _ h.zero e.symm];rfl
  . rw[<- hu _ h.one e.symm];rfl
theorem Zsf {hs:List (Int×Nat)}{p:Int×Nat}(hp:p∈hs)(h1:1<p.1):0<Zb7 hs (p.2/2):=by
 unfold Zb7;refine List.length_pos_of_mem (List.mem_filter.2 ⟨hp,?_⟩);simp[h1]
theorem Yax (hs:List (Int×Nat))(i:Nat):Zb7 hs i<=hs.length:=List.length_filter_le _ _
theorem Zzh (h:Zca m)(i:Nat):Za0 m.d i<=m.next:=by
 cases hb:Zab m.d i with
 | none=>rw[Zes hb];have:=h.next;omega
 | some b =>
   rw[h.refs i b hb];have h1:=Yax m.hs i;have h2:=h.len;omega
theorem Zo8 (h:Zca { m with d:=d0 })(hk:Zaq d0 V)(s:Zkn d0 V k d' V'):Zca { m with d:=d' }:=by
 have g1:∀ p∈m.hs,okE (Zab d') p.2:=by
  intro p hp;rcases h.ok p hp with h0|⟨b,hb⟩
  . exact .inl h0
  .
   rcases h.big hp with h1|h1
   . exact .inl h1
   . refine .inr (s.live _ b hb ?_);have h2:=h.refs _ b hb;have h3:0<Zb7 m.hs (p.2/2):=Zsf hp h1;have h4:Za0 d0 (p.2/2)=(Zb7 m.hs (p.2/2):Int):=h2;omega
 refine⟨h.nodup,h.zero,h.one,h.lt,h.next,g1,h.len,fun i b hb=>?_⟩
 show Za0 d' i=(Zb7 m.hs i:Int)
 rw[s.ext i b hb];cases hn:Zab d0 i with
 | some b0=>exact h.refs i b0 hn
 | none =>
   rw[Zes hn];have hi:i≠0:=by
    rintro rfl;have h0:Zab d' 0=none:=s.ok.dag.none0;have h1:Zab d' 0=some b:=hb;rw[h0] at h1;cases h1
   have:Zb7 m.hs i=0:=by
    unfold Zb7;rw[List.length_eq_zero_iff,List.filter_eq_nil_iff];intro p hp;have ho:=h.ok p hp;simp only[Bool.and_eq_true,decide_eq_true_eq,beq_iff_eq,not_and];rintro _ rfl;rcases ho with h0|⟨b1,g2⟩
    . exact hi h0
    . have g0:Zab d0 (p.2/2)=some b1:=g2;rw[hn] at g0;cases g0
   rw[this];rfl
end
structure Ybb (K:Law)(n room:Nat)(w0:World)(mb:Nat)(fs:List (Int×BF))(nx:Int)(k:Nat)(o:Own)(w:World)(m:ManD)(V:Nat->BF)(e:Ending)(o':Own)(w':World)(m':ManD)(V':Nat->BF):Prop where
 sat:SatE K n (fun _=>True) room w0 mb fs nx w' o' m' V'
 waits:m'.waits=m.waits
 calls:m'.calls=m.calls
 chg:Chg (fun _=>True) o o' w w'
 way:∃ d0,Zbi m.d d0/\((e=.returned (.int .i64 7)/\m'.d=d0/\V'=V/\d0.pool.room<3*d0.pool.many)\/(e=.returned (.int .i64 0)/\Zkn d0 V k m'.d V'))
section
variable {K:Law}{n:Nat}{Od:List Nat->Prop}{room:Nat}{w0 w w':World}{mb:Nat}{fs:List (Int×BF)}{nx:Int}{o o':Own}{m:ManD}{V:Nat->BF}
theorem Yaz {k:Nat}{s:ManW}{w1:World}(h:SatE K n Od room w0 mb fs nx w o m V)(g1:Zcg (fun _ _ _ _ _=>False) o w1 mb m s)(g2:Chg (· = .entries) o o w w1)(g3:Zal o w1)(hk1:k+1<n)(hn:nx<=549755813888) :
 Calls prog 182 #[.pointer (some ⟨s.sb,0,none⟩),.int .i64 k] w1 fun e w'=>∃ o' m' V',Ybb K n room w0 mb fs nx k o w m V e o' w' m' V':=by
 have g0:=h.next
 refine(Zn8 g1.store g3 h.ok.store k (by rw[h.vars];exact hk1) (fun i=>by have:=Zzh h.ok.handles i;omega)).mono ?_;rintro e w' ⟨o',d0,cr,lt,ch,hw⟩;have hc:Chg (fun _=>True) o o' w w':=g2.any.trans ch.any;have h0:=Zjn h.ok.handles h.ok.store cr;rcases hw with ⟨rfl,st,hr⟩|⟨rfl,d',V',st,so⟩
 . refine⟨o',{ m with d:=d0 },V,⟨⟨s,(g1.setStore g3 st ch).mono fun _ _ _ _ _ e=>e.elim⟩,lt,⟨cr.ok h.ok.store,h0⟩,by dsimp only;rw[cr.vars];exact h.vars,trivial,by dsimp only;rw[cr.room];exact h.room,h.next,h.hs,h.chg.lower (ChgX.of_chg hc NoB) (fun _ e=>e.elim)⟩,rfl,rfl,hc,d0,cr,.inl ⟨rfl,rfl,rfl,hr⟩⟩
 .
  refine⟨o',{ m with d:=d' },V',⟨⟨s,(g1.setStore g3 st ch).mono fun _ _ _ _ _ e=>e.elim⟩,lt,⟨so.ok,Zo8 h0 (cr.ok h.ok.store) so⟩,?_,trivial,?_,h.next,?_,h.chg.lower (ChgX.of_chg hc NoB) (fun _ e=>e.elim)⟩,rfl,rfl,hc,d0,cr,.inr ⟨rfl,so⟩⟩
  .
   show d'.vars.length=n
   rw[so.vars,Zi0,cr.vars];exact h.vars
  .
   show d'.pool.room=room
   rw[so.room,cr.room];exact h.room
  .
   show m.hs.map (fun p=>(p.1,ef V' p.2))=fs
   rw[Zzi (d:=d0) h0.ok so.val];exact h.hs
end
open Go.RowKit
section
variable {K:Law}{n:Nat}{Od:List Nat->Prop}{room:Nat}{w0 w w':World}{mb:Nat}{fs:List (Int×BF)}{nx:Int}{o o':Own}{m:ManD}{V:Nat->BF}
theorem Ztt (h:SatE K n Od room w0 mb fs nx w o m V)(z:Int)(P:Ending->World->Prop)
 (hsw:∀ s w1,Zcg (K m.d V) o w mb m s->Zcg (fun _ _ _ _ _=>False) o w1 mb m s->Chg (· = .entries) o o w w1->Zal o w1->Calls prog 182 #[.pointer (some ⟨s.sb,0,none⟩),.int .i64 z] w1 fun x w'=>∃ q:Int,x=.returned (.int .i64 q)/\P x w') :
 Calls prog 130 #[.pointer (some ⟨mb,0,none⟩),.int .i64 z] w P:=by
 obtain⟨s,hs⟩:=h.is;obtain⟨c0,c1,c2,c3,c4,c5,f0⟩:=cells6 hs.blk;have HC:=Hd (fun w1=>hsw s w1 hs);have g0:=Hd (wclear h hs (fun _ _ _ _ _=>False));clear h hs hsw
 go_enter func130,ntmps130
 go_wp2_with fail;refine g0.out.mono ?_;rintro x w1 ⟨rfl,g1,g2,g3⟩;obtain⟨d0,d1,d2,d3,d4,d5,f1⟩:=cells6 g1.blk;have g4:=Hd (HC.out w1 g1 g2 g3);clear g1 g2 g3 c0 c1 c2 c3 c4 c5 f0 g0 HC;go_wp2_with fail;refine g4.out.mono ?_;rintro x w2 ⟨q,rfl,hq⟩;have HQ:=Hd hq;clear hq;go_wp2_with fail;exact HQ.out
theorem Zrd (h:SatE K n Od room w0 mb fs nx w o m V){k:Nat}(hk1:k+1<n)(hn:nx<=549755813888) :
 Calls prog 130 #[.pointer (some ⟨mb,0,none⟩),.int .i64 k] w fun e w'=>∃ o' m' V',Ybb K n room w0 mb fs nx k o w m V e o' w' m' V' :=
 Ztt h k _ fun s w1 _ g1 g2 g3=>(Yaz h g1 g2 g3 hk1 hn).mono fun e w' ⟨o',m',V',hs⟩=>by
  obtain⟨d0,cr,hw⟩:=hs.way;rcases hw with ⟨e1,_⟩|⟨e1,_⟩
  . exact⟨7,e1,o',m',V',hs⟩
  . exact⟨0,e1,o',m',V',hs⟩
end
open Go.RowKit
theorem Zfy (f g:Nat->Int):∀ k,Zaw k (fun i=>f i+g i)=Zaw k f+Zaw k g
 | 0=>by simp[Zaw]
 | k+1=>by simp only[Zaw];rw[Zfy f g k];omega
theorem Zhq {f g:Nat->Int}:∀ k,(∀ i,i<k->f i<=g i)->Zaw k f<=Zaw k g
 | 0,_=>by simp[Zaw]
 | k+1,h=>by
   have h1:=Zhq k (fun i hi=>h i (by omega));have h2:=h k (by omega);simp only[Zaw];omega
theorem Zlk (c:Int)(f:Nat->Int):∀ k,c*Zaw k f=Zaw k (fun i=>c*f i)
 | 0=>by simp[Zaw]
 | k+1=>by simp only[Zaw];rw[Int.mul_add,Zlk c f k]
theorem Zmz (f:Nat->Nat->Int)(m:Nat):∀ k,Zaw k (fun i=>Zaw m (fun j=>f i j))=Zaw m (fun j=>Zaw k (fun i=>f i j))
 | 0=>by simp only[Zaw];rw[Zdp]
 | k+1=>by
   simp only[Zaw];rw[Zmz f m k,<- Zfy]
theorem Zll {g:Nat->Int}(hg:∀ i,0<=g i)(e k:Nat):Zaw k (fun i=>g i*toE e i)<=g (e/2):=by
 by_cases hk:e/2<k
 .
  have h1:=Zdu (f:=fun _=>0) (g:=fun i=>g i*toE e i) (j:=e/2) (fun i hi=>by
   have:toE e i=0:=by unfold toE;rw[if_neg (Ne.symm hi)]
   simp[this]) k hk
  rw[h1,Zdp];have:toE e (e/2)=1:=Zjg e;simp[this]
 .
  rw[Zbb (g:=fun _=>0) k (fun i hi=>by
   have:toE e i=0:=by unfold toE;rw[if_neg (by omega)]
   simp[this]),Zdp]
  exact hg _
def gW (d:Zag)(i:Nat):Int:=match Zab d i with
 | some b=>((2^(d.vars.length-levN d b.v):Nat):Int)-1
 | none=>0
theorem Zgx (d:Zag)(i:Nat):0<=gW d i:=by
 unfold gW;split
 . have:0<2^(d.vars.length-levN d (by assumption:BN).v):=Nat.pow_pos (by decide);omega
 . omega
theorem Ybh (d:Zag)(i l:Nat)(h:∀ b,Zab d i=some b->l<=levN d b.v):gW d i<=((2^(d.vars.length-l):Nat):Int)-1:=by
 unfold gW;split
 .
  rename_i b hb
  have h1:=h b hb;have:2^(d.vars.length-levN d b.v)<=2^(d.vars.length-l):=Nat.pow_le_pow_right (by decide) (by omega);omega
 . have:0<2^(d.vars.length-l):=Nat.pow_pos (by decide);omega
theorem Zx0 {d:Zag}{V:Nat->BF}(hk:Zaq d V){j:Nat}{b:BN}(hb:Zab d j=some b):gW d (b.lo/2)+gW d (b.hi/2)<=gW d j-1:=by
 have hl:=hk.dag.lt _ (hk.dag.var _ _ hb);have key:∀ e,levN d b.v<lvE d.vars.length (levN d) (Zab d) e->gW d (e/2)<=((2^(d.vars.length-(levN d b.v+1)):Nat):Int)-1:=fun e he=>Ybh d _ _ (fun c hc=>by rw[Zpk hc] at he;omega)
 have h1:=key _ (hk.dag.lvLo _ _ hb);have h2:=key _ (hk.dag.lvHi _ _ hb);have h3:gW d j=((2^(d.vars.length-levN d b.v):Nat):Int)-1:=by unfold gW;rw[hb]
 have h4:d.vars.length-levN d b.v=(d.vars.length-(levN d b.v+1))+1:=by omega
 rw[h3,h4,Nat.pow_succ];omega
theorem Zx9 {d:Zag}{V:Nat->BF}(hk:Zaq d V)(h0:d.dead=0)(hc:(d.pool.many:Int)=Zaw d.pool.at_.length (fun i=>if d.pool.tk i=true then 1 else 0)) :
 (d.pool.many:Int)<=Zaw d.pool.at_.length (fun i=>gW d i*Za0 d i):=by
 obtain⟨k,g0⟩:∃ k,k=d.pool.at_.length:=⟨_,rfl⟩;rw[<- g0] at hc ⊢;have e1:Zaw k (fun i=>gW d i*(Zaz d i:Int))=Zaw k (fun i=>gW d i*Za0 d i)+Zaw k (fun i=>gW d i*Zaw k (from1 (Zab d) (Zaz d) i)):=by
  rw[<- Zfy];refine Zbb k fun i _=>?_
  cases hb:Zab d i with
  | none=>simp[gW,hb]
  | some b=>rw[hk.live.cnt.eq i b hb,Int.mul_add,g0]
 have e2:Zaw k (fun i=>gW d i*Zaw k (from1 (Zab d) (Zaz d) i))=Zaw k (fun j=>Zaw k (fun i=>gW d i*from1 (Zab d) (Zaz d) i j)):=by
  rw[<- Zmz];exact Zbb k fun i _=>Zlk _ _ _
 have e3:Zaw k (fun j=>Zaw k (fun i=>gW d i*from1 (Zab d) (Zaz d) i j))<=Zaw k (fun j=>gW d j + -(if d.pool.tk j=true then 1 else 0)):=by
  refine Zhq k fun j _=>?_
  cases hb:Zab d j with
  | none =>
    have ht:d.pool.tk j=false:=Zg3 hb;rw[Zbb (g:=fun _=>0) k (fun i _=>by simp[from1,hb]),Zdp];simp[gW,hb,ht]
  | some b =>
    have ht:d.pool.tk j=true:=(Za9 hb).1;have hp:=Zj9 hk.live h0 hb
    rw[Zbb (g:=fun i=>gW d i*toE b.lo i+gW d i*toE b.hi i) k (fun i _=>by
     simp only[from1,hb,if_pos hp,Zd0];rw[Int.mul_add]),Zfy,ht,if_pos rfl]
    have h1:=Zll (Zgx d) b.lo k;have h2:=Zll (Zgx d) b.hi k;have h3:=Zx0 hk hb;omega
 have e4:Zaw k (fun i=>gW d i)<=Zaw k (fun i=>gW d i*(Zaz d i:Int)):=by
  refine Zhq k fun i _=>?_
  cases hb:Zab d i with
  | none=>simp[gW,hb]
  | some b =>
    have hp:=Zj9 hk.live h0 hb;have hg:=Zgx d i;have h1:(1:Int)<=(Zaz d i:Int):=by omega
    have h2:=Int.mul_le_mul_of_nonneg_left h1 hg;omega
 have e5:Zaw k (fun j=>gW d j + -(if d.pool.tk j=true then 1 else 0))=Zaw k (fun j=>gW d j)+Zaw k (fun j=>-(if d.pool.tk j=true then 1 else 0)):=Zfy _ _ _;have e6:Zaw k (fun j=>-(if d.pool.tk j=true then (1:Int) else 0)) = -Zaw k (fun j=>if d.pool.tk j=true then 1 else 0):=by
  have:=Zlk (-1) (fun j=>if d.pool.tk j=true then (1:Int) else 0) k;rw[Zbb (g:=fun i=>-1*if d.pool.tk i=true then (1:Int) else 0) k (fun i _=>by omega),<- this];omega
 omega
theorem Zsg (d:Zag)(k:Nat):∀ hs:List (Int×Nat),Zaw k (fun i=>gW d i*(Zb7 hs i:Int))<=hs.length*((2^d.vars.length:Nat):Int)
 | []=>by
   rw[Zbb (g:=fun _=>0) k (fun i _=>by simp[Zb7]),Zdp];simp
 | p::l=>by
   have ih:=Zsg d k l;have h1:Zaw k (fun i=>gW d i*(Zb7 (p::l) i:Int))<=Zaw k (fun i=>gW d i*(Zb7 l i:Int)+gW d i*toE p.2 i):=by
    refine Zhq k fun i _=>?_
    rw[<- Int.mul_add];refine Int.mul_le_mul_of_nonneg_left ?_ (Zgx d i);unfold Zb7 toE
    by_cases e:p.2/2=i
    .
     rw[if_pos e];have:(List.filter (fun p=>decide (1<p.1)&&p.2/2 == i) (p::l)).length<=(List.filter (fun p=>decide (1<p.1)&&p.2/2 == i) l).length+1:=by
      rw[List.filter_cons];split<;>simp
     omega
    . rw[if_neg e,List.filter_cons_of_neg (by simp[e])];omega
   have h2:=Zll (Zgx d) p.2 k;have h3:=Ybh d (p.2/2) 0 (fun _ _=>Nat.zero_le _);rw[Zfy] at h1;rw[List.length_cons,Int.natCast_add,Int.add_mul];simp only[Nat.sub_zero] at h3;have h4:((1:Nat):Int)*((2^d.vars.length:Nat):Int)=((2^d.vars.length:Nat):Int):=by simp
   omega
section
variable {K:Law}{n:Nat}{Od:List Nat->Prop}{room:Nat}{w0 w w':World}{mb:Nat}{fs:List (Int×BF)}{nx:Int}{o o':Own}{m m':ManD}{V V':Nat->BF}
theorem SatE.few (h:SatE K n Od room w0 mb fs nx w o m V)(h0:m.d.dead=0):m.d.pool.many<=fs.length*2^n:=by
 obtain⟨s,hs⟩:=h.is;obtain⟨s2,h2⟩:=hs.store;have h1:=Zx9 h.ok.store h0 h2.pool.cnt;have h3:=Zsg m.d m.d.pool.at_.length m.hs;have h4:Zaw m.d.pool.at_.length (fun i=>gW m.d i*Za0 m.d i)=Zaw m.d.pool.at_.length (fun i=>gW m.d i*(Zb7 m.hs i:Int)):=by
  refine Zbb _ fun i _=>?_
  cases hb:Zab m.d i with
  | none=>simp[gW,hb]
  | some b=>rw[h.ok.handles.refs i b hb]
 have h5:fs.length=m.hs.length:=by rw[<- h.hs,List.length_map]
 rw[h5,<- h.vars];have h6:((m.hs.length*2^m.d.vars.length:Nat):Int)=m.hs.length*((2^m.d.vars.length:Nat):Int):=by rw[Int.natCast_mul]
 omega
end
open Go.RowKit
theorem Zxq (zs:List Int)(x:Int)(i:Nat):Zqu zs x i=bub zs i (Zau zs x-i).toNat:=rfl
theorem Zu0 (zs:List Int)(i d:Nat):(bub zs i (d+1)).2=((i+d:Nat):Int)::(bub (Zef zs ((i+d:Nat):Int)) i d).2:=rfl
def Zgp (a b:List Int)(w:World)(e:Ending)(w':World):Prop :=
 ∃ v,e=.returned (.tuple #[v,.int .i64 (Zdh a b)])/\OwnI w' w.heap.size v (Zdn a b)/\Below w.heap.size w w'
theorem Zgf {a b r:List Int}{w w':World}{v:Value}{E:Int}(hE:Zdh a b=E)(hr:Zdn a b=r)(hs:OwnI w' w.heap.size v r)(hb:Below w.heap.size w w') :
 Zgp a b w (.returned (.tuple #[v,.int .i64 E])) w':=⟨v,by rw[hE],by rw[hr];exact hs,hb⟩
def metB (zs:List Int)(k:Nat)(v:Int):Bool:=decide (∃ j,j<k/\at0 zs j=v)
theorem Zwc (zs:List Int)(v:Int):metB zs 0 v=false:=by simp[metB]
theorem Zpq (zs:List Int)(k:Nat):metB zs (k+1) (at0 zs k)=true:=by simp only[metB,decide_eq_true_eq];exact⟨k,by omega,rfl⟩
theorem Zjr (zs:List Int)(k:Nat)(v:Int)(h:at0 zs k≠v):metB zs (k+1) v=metB zs k v:=by
 simp only[metB,decide_eq_decide];constructor
 .
  rintro⟨j,hj,he⟩;refine⟨j,?_,he⟩
  by_cases e:j=k
  . subst e;exact(h he).elim
  . omega
 . rintro⟨j,hj,he⟩;exact⟨j,by omega,he⟩
theorem Zwb {zs:List Int}{k:Nat}{v:Int}(h:metB zs k v=true):∃ j,j<k/\at0 zs j=v:=by simpa [metB] using h
theorem Ztx {zs:List Int}{k:Nat}{v:Int}(h:metB zs k v=false):∀ j,j<k->at0 zs j≠v:=by
 intro j hj he;have:metB zs k v=true:=by simp only[metB,decide_eq_true_eq];exact⟨j,hj,he⟩
 rw[h] at this;cases this
def Marks (w:World)(g:Nat)(zs:List Int)(k base:Nat):Prop :=
 ∃ cur,w.heap[g]?=some (.cells cur 182 (0,0))/\cur.size=64/\∀ u,u<64->cur[u]?=some (.bool (metB zs k ((base+u:Nat):Int)))
theorem Marks.cell {w:World}{g:Nat}{zs:List Int}{k base:Nat}(h:Marks w g zs k base)(u:Nat)(hu:u<64):w.cell? ⟨g,u,none⟩=some (.bool (metB zs k ((base+u:Nat):Int))):=by
 obtain⟨cur,h1,h2,h3⟩:=h;simp only[World.cell?,h1];exact h3 u hu
theorem Marks.frozen {w:World}{g:Nat}{zs:List Int}{k base:Nat}(h:Marks w g zs k base)(u:Nat):w.frozen? ⟨g,u,none⟩=false:=by
 obtain⟨cur,h1,h2,h3⟩:=h;simp[World.frozen?,h1]
theorem Marks.step_out {w:World}{g:Nat}{zs:List Int}{k base:Nat}(h:Marks w g zs k base)(hx:¬ ((base:Int)<=at0 zs k/\at0 zs k<base+64)):Marks w g zs (k+1) base:=by
 obtain⟨cur,h1,h2,h3⟩:=h;exact⟨cur,h1,h2,fun u hu=>by rw[Zjr _ _ _ (by omega)];exact h3 u hu⟩
theorem Marks.step_in {w:World}{g:Nat}{zs:List Int}{k base u:Nat}(h:Marks w g zs k base)(hx:at0 zs k=((base+u:Nat):Int))(hu:u<64) :
 Marks (w.setCell ⟨g,u,none⟩ (.bool true)) g zs (k+1) base:=by
 obtain⟨cur,h1,h2,h3⟩:=h;refine⟨cur.setIfInBounds u (.bool true),?_,by simpa using h2,fun v hv=>?_⟩
 . simp[World.setCell,Array.getElem?_modify,h1]
 .
  by_cases e:v=u
  . subst e;rw[Array.getElem?_setIfInBounds_self_of_lt (by omega),<- hx,Zpq]
  . rw[Array.getElem?_setIfInBounds_ne (by omega),Zjr _ _ _ (by omega)];exact h3 v hv
theorem Zwa (w:World)(zs:List Int)(base:Nat)(cs:List Value)(hcs:cs=List.replicate 64 (.bool false)):Marks (w.alloc (.cells cs.toArray 182)) w.heap.size zs 0 base :=
 ⟨_,heap_alloc_new w _,by simp[hcs],fun u hu=>by rw[Zwc,List.getElem?_toArray,hcs,List.getElem?_replicate,if_pos hu]⟩
def Zkl (zs:List Int)(B:Nat):Prop :=
 1<=B->(∀ j,j<zs.length->0<=at0 zs j/\at0 zs j<zs.length)/\∀ i,i<zs.length->∀ l,l<i->at0 zs l=at0 zs i->(B:Int)<=at0 zs i
def Zkk (zs:List Int)(B k:Nat):Prop :=
 (∀ j,j<k->0<=at0 zs j/\at0 zs j<zs.length)/\(∀ i,i<k->∀ l,l<i->at0 zs l=at0 zs i->¬ ((B:Int)<=at0 zs i/\at0 zs i<(B:Int)+64))
theorem Zp9 (zs:List Int):Zkl zs 0:=fun h=>by omega
theorem Zp7 (zs:List Int)(B:Nat):Zkk zs B 0:=⟨by omega,by omega⟩
theorem Zg8 {zs:List Int}{B k:Nat}(h:Zkk zs B k)(h1:0<=at0 zs k)(h2:at0 zs k<zs.length)
 (h3:¬ ((B:Int)<=at0 zs k/\at0 zs k<(B:Int)+64)\/metB zs k (at0 zs k)=false):Zkk zs B (k+1):=by
 refine⟨fun j hj=>?_,fun i hi l hl he=>?_⟩
 .
  by_cases e:j=k
  . subst e;exact⟨h1,h2⟩
  . exact h.1 j (by omega)
 .
  by_cases e:i=k
  .
   subst e;rcases h3 with h3|h3
   . exact h3
   . exact(Ztx h3 l hl he).elim
  . exact h.2 i (by omega) l hl he
theorem Zp8 {zs:List Int}{B:Nat}(h:Zkl zs B)(hi:Zkk zs B zs.length):Zkl zs (B+64):=by
 refine fun _=>⟨hi.1,fun i g0 l hl he=>?_⟩
 have h2:=hi.2 i g0 l hl he;have h3:=(hi.1 i g0).1
 by_cases hB:1<=B
 . have:=(h hB).2 i g0 l hl he;omega
 . omega
theorem Zp6 {zs:List Int}{B:Nat}(h:Zkl zs B)(hB:zs.length<=B):Za1 zs=true:=by
 rw[Zbq]
 by_cases h0:1<=B
 . obtain⟨h1,h2⟩:=h h0;exact⟨h1,fun i hi k hk he=>by have:=h2 i hi k hk he;have:=(h1 i hi).2;omega⟩
 . exact⟨by omega,by omega⟩
theorem Zg7 {zs:List Int}{k:Nat}(hk:k<zs.length)(h:¬ (0<=at0 zs k/\at0 zs k<zs.length)):Za1 zs=false:=Zjt fun hh=>h (hh.1 k hk)
theorem Zny {zs:List Int}{k:Nat}(hk:k<zs.length)(h:metB zs k (at0 zs k)=true):Za1 zs=false:=by
 obtain⟨j,hj,he⟩:=Zwb h;exact Zjt fun hh=>hh.2 k hk j hj he
theorem Zbj (a:Option Addr)(c:Nat)(zs:List Int)(w:World)(h:Za4 w a zs)(hlen:zs.length<1000000) :
 Calls prog 62 #[.slice a zs.length c] w fun e w'=>e=.returned (.bool (Za1 zs))/\Below w.heap.size w w':=by
 obtain⟨hl,hc⟩:=h;have gi:Hid (∀ k,k<zs.length->∃ b off,a=some ⟨b,off,none⟩/\b<w.heap.size/\w.cell? ⟨b,off+k,none⟩=some (.int .i64 (at0 zs k))):=fun k hk=>by
  obtain⟨b,off,h1,h2⟩:=hc k hk;exact⟨b,off,h1,Zaa h2,h2⟩
 clear hc
 go_enter func62,ntmps62
 go_wp2
 go_loopw [3] (fun s3 wr=>∃ B:Nat,s3=.int .i64 B/\B<=zs.length+63/\Zkl zs B/\Below w.heap.size w wr/\w.heap.size<=wr.heap.size) (fun i _=>zs.length+64-(intOf i).toNat)
 case atStart=>exact⟨0,rfl,by omega,Zp9 zs,Below.refl _ _,Nat.le_refl _⟩
 case round =>
  obtain⟨B,rfl,hB,hrel,g9,ga⟩:=hrel;have HR:=Hd hrel;clear hrel
  by_cases gn:B<zs.length
  .
   go_wp2
   obtain⟨wo,rfl⟩:∃ wo:World,wo=wr:=⟨_,rfl⟩
   go_loopw [16] (fun i wi=>∃ k:Nat,k<=zs.length/\i=.int .i64 k/\Zkk zs B k/\Marks wi wo.heap.size zs k B/\Below w.heap.size w wi/\w.heap.size<=wi.heap.size) (fun i _=>zs.length-(intOf i).toNat)
   case atStart=>exact⟨0,by omega,rfl,Zp7 zs B,Zwa _ _ _ _ rfl,g9.alloc ga _,by simp;omega⟩
   case round =>
    obtain⟨k,hk,rfl,gc,hm,g0,g2⟩:=hrel;have g4:=Hd gc;have HM:=Hd hm;clear gc hm
    by_cases g3:k<zs.length
    .
     obtain⟨b,off,rfl,gh,ge⟩:=gi.out k g3;have gl:=(g0.cell (p:=⟨b,off+k,none⟩) gh).trans ge;clear ge
     by_cases hx:0<=at0 zs k/\at0 zs k<zs.length
     .
      obtain⟨g6,g5⟩:=hx
      by_cases g1:(B:Int)<=at0 zs k/\at0 zs k<(B:Int)+64
      .
       obtain⟨gk,gj⟩:=g1;have g7:((at0 zs k).toNat-B)<64:=by omega
       have g8:at0 zs k=((B+((at0 zs k).toNat-B):Nat):Int):=by omega
       have gf:=HM.out.cell _ g7;have gr:=HM.out.frozen ((at0 zs k).toNat-B);rw[<- g8] at gf;have HU:=Hd g8
       generalize gd:metB zs k (at0 zs k)=mb at gf
       have gg:=Hd gd;clear gd g8;cases mb
       .
        go_wp2
        go_roundw
        case rel=>exact⟨k+1,by omega,by go_num,Zg8 g4.out g6 g5 (.inr gg.out),HM.out.step_in HU.out g7,g0.setCell ga _,by simp;omega⟩
        case measure=>simp[intOf];omega
       .
        go_wp2
        go_ret;exact⟨Zdt (Zny g3 gg.out).symm,g0⟩
      .
       have HW:=Hd g1
       by_cases go:at0 zs k<(B:Int)
       .
        clear g1
        go_wp2
        go_roundw
        case rel=>exact⟨k+1,by omega,by go_num,Zg8 g4.out g6 g5 (.inl HW.out),HM.out.step_out HW.out,g0,g2⟩
        case measure=>simp[intOf];omega
       .
        have gp:(B:Int)+64<=at0 zs k:=by omega
        clear g1
        go_wp2
        go_roundw
        case rel=>exact⟨k+1,by omega,by go_num,Zg8 g4.out g6 g5 (.inl HW.out),HM.out.step_out HW.out,g0,g2⟩
        case measure=>simp[intOf];omega
     .
      have HX:=Hd hx
      by_cases gm:at0 zs k<0
      .
       clear hx
       go_wp2
       go_ret;exact⟨Zdt (Zg7 g3 HX.out).symm,g0⟩
      .
       have gq:(zs.length:Int)<=at0 zs k:=by omega
       clear hx
       go_wp2
       go_ret;exact⟨Zdt (Zg7 g3 HX.out).symm,g0⟩
    .
     obtain rfl:k=zs.length:=by omega
     go_wp2
     go_roundw
     case rel=>exact⟨B+64,by go_num,by omega,Zp8 HR.out g4.out,g0,g2⟩
     case measure=>simp[intOf];omega
  .
   go_wp2
   go_ret;exact⟨Zdt (Zp6 HR.out (by omega)).symm,g9⟩
theorem Zlr {ops:Array Oper}{rest:List Oper}{o:Oper}{a:Act}{Q:Exit->Act->World->Prop}{wr:World}(hgd:o.guard=none)(d s:Operand)
 (ho:o.op=.call { callee:=.builtin .copy,args:=#[d,s],argTypes:=#[23,23] })
 (base g:Nat) (w0:World) (zs:List Int) (xs:List Value) (ao:Option Addr) (c:Nat) (hd:a.eval d=.slice (some ⟨g,0,none⟩) zs.length zs.length) (hs:a.eval s=.slice ao zs.length c)
 (hown:wr.ownsRow base 3 1 (.slice (some ⟨g,0,none⟩) zs.length zs.length) zs.length xs) (hzs:Za4 wr ao zs) (hb:Below base w0 wr)
 (h:∀ v' w',OwnI w' base (.slice (some ⟨g,0,none⟩) zs.length zs.length) zs->Below base w0 w'->base<=w'.heap.size->wpList prog ops Q rest (a.put o.dst v') w') :
 wpList prog ops Q (o::rest) a wr:=by
 obtain⟨g9,hx⟩:=hown;rcases hx with ⟨hv,_⟩|⟨g',cap,cur,hv,g2,hg,ga,g5,g1,g8⟩
 . cases hv
 .
  simp only[Value.slice.injEq,Option.some.injEq,Addr.mk.injEq,and_true,true_and] at hv;obtain⟨rfl,rfl⟩:=hv;refine wpList_copy_splice (w:=wr) hgd d s 23 23 ho 3 underlying23 (by obtain⟨i,hi,_,g4,_⟩:=info_parts Zi6;rw[hi];simp[g4])
   _ _ _ _ _ _ hd hs g 0 cur.toList 3 (by simpa using hg) (Zbh zs) (by simp[Zbh]) ?_ (by simp[Zbh,g1]) (ints_oneCell .i64 zs) base w0 hb g2 ?_
  .
   intro hp;rw[Zg0] at hp;obtain⟨b,off,rfl,_⟩:=hzs.cells 0 hp;refine⟨rfl,_,rfl,fun j v hj=>?_⟩;have g0:j<zs.length:=by
    rcases Nat.lt_or_ge j zs.length with h'|h'
    . exact h'
    . simp[Zbh,List.getElem?_eq_none h'] at hj
   obtain⟨b',off',g7,hc⟩:=hzs.cells j g0;cases g7;simp[Zbh,getElem?_at0 g0] at hj;subst hj;have g3:(⟨b,off,none⟩:Addr).add j=⟨b,off+j,none⟩:=by unfold Addr.add;split<;>simp_all
   rw[g3];exact hc
  .
   intro w' hh g6;refine h _ w' ⟨by simp[Zbh],.inr ⟨g,_,(Zbh zs).toArray,rfl,g2,?_,Nat.le_refl _,g5,by simp[Zbh],by simp[Zbh,List.take_of_length_le]⟩⟩ g6 ?_
   .
    have:=hh.out;rw[this];have hl:cur.toList.length=zs.length:=by simp[g1]
    simp[splice,Zbh,List.drop_eq_nil_of_le,hl]
   . have h1:=hh.out;have:=(Array.getElem?_eq_some_iff.1 h1).1;omega
theorem Zu7 (a:Option Addr)(c:Nat)(zs:List Int)(w:World)(h:Za4 w a zs)(hlen:zs.length<1000000) :
 Calls prog 176 #[.slice a zs.length c] w fun e w'=>∃ g,e=.returned (.slice (some ⟨g,0,none⟩) zs.length zs.length)/\OwnI w' w.heap.size (.slice (some ⟨g,0,none⟩) zs.length zs.length) zs/\Below w.heap.size w w':=by
 obtain⟨i,hi,hz,g3,g4⟩:=info_parts Zi6;have HI:=Hd h;clear h
 go_enter func176,ntmps176
 go_wp2_with (first
  | (at_make;refine wpList_make_full _ rfl _ _ 23 rfl w.heap.size 3 i (.int .i64 0) 1 underlying23 hi hz g3 .i64 .i64 _ _ zs.length rfl rfl rfl rfl (by rw[g4];omega) (by unfold maxLen;omega) (Nat.le_refl _) ?_;intro w1 g1 g2)
  | (with_reducible refine Zlr rfl (.tmp 7) (.tmp 8) rfl w.heap.size w.heap.size w zs _ a c rfl rfl (by exact g1) (HI.out.keep (Zch g2) (by simp)) ((Below.refl _ _).grown g2 (Nat.le_refl _) (by simp)) ?_;intro v2 w2 g0 g5 g6))
 go_ret;exact⟨_,rfl,g0,g5⟩
theorem Zvp (a:Option Addr)(c:Nat)(zs:List Int)(x:Int)(w:World)(h:Za4 w a zs) :
 Calls prog 233 #[.slice a zs.length c,.int .i64 x] w fun e w'=>e=.returned (.int .i64 (Zau zs x))/\∃ n,w'=w.drewN n:=by
 obtain⟨hl,hc⟩:=h;have HC:=Hd hc;clear hc
 go_enter func233,ntmps233
 go_wp2
 go_loop [8] (fun i=>∃ k:Nat,k<=zs.length/\i=.int .i64 k/\∀ j,j<k->at0 zs j≠x) (fun i=>zs.length-(intOf i).toNat)
 case atStart=>exact⟨0,Nat.zero_le _,rfl,by omega⟩
 case round =>
  obtain⟨k,hk,rfl,hrel⟩:=hrel;have HR:=Hd hrel;clear hrel
  by_cases g0:k<zs.length
  .
   obtain⟨b,off,rfl,g1⟩:=HC.out k g0
   by_cases hx:at0 zs k=x
   .
    have H1:(x == at0 zs k)=true:=by simpa using hx.symm
    have HX:=Hd hx;clear hx
    go_wp2
    go_ret;exact⟨Zrh (Zg6 g0 HX.out HR.out).symm,0,rfl⟩
   .
    have H1:(x == at0 zs k)=false:=by simpa using(fun e=>hx e.symm)
    go_wp2
    go_round
    case rel=>exact⟨k+1,by omega,by go_num,fun j hj=>by
     by_cases e:j=k
     . subst e;exact hx
     . exact HR.out j (by omega)⟩
    case measure=>simp[intOf];omega
  .
   go_wp2
   go_ret;exact⟨Zrh (Zla (fun j hj=>HR.out j (by omega))).symm,0,rfl⟩
theorem OwnI.len {w:World}{base n c:Nat}{a:Option Addr}{zs:List Int}(h:OwnI w base (.slice a n c) zs):n=zs.length:=by
 rcases h.2 with ⟨hv,h0⟩|⟨g,cap,cur,hv,_⟩
 . simp only[Value.slice.injEq] at hv;omega
 . simp only[Value.slice.injEq] at hv;omega
theorem OwnI.intsAt {w:World}{base n c:Nat}{a:Option Addr}{zs:List Int}(h:OwnI w base (.slice a n c) zs)(hl:zs.length<=9223372036854775807):Za4 w a zs:=by
 obtain rfl:=h.len;exact Zfk hl h
theorem Zx3 {a:Option Addr}{n c:Nat}{zs:List Int}{x:Int}{w:World}(hn:n=zs.length)(h:Za4 w a zs) :
 Calls prog 233 #[.slice a n c,.int .i64 x] w fun e w'=>e=.returned (.int .i64 (Zau zs x))/\∃ n,w'=w.drewN n:=by
 subst hn;exact Zvp a c zs x w h
theorem Znv (va vb:Value)(xs ys:List Int)(w:World)(h:SliceIs w va xs)(h':SliceIs w vb ys)(hlen:xs.length<=1000)(hlen':ys.length<=1000) :
 Calls prog 211 #[va,vb] w (Zgp xs ys w):=by
 obtain⟨a,c,rfl,ha,gT⟩:=h;obtain⟨b,c',rfl,hb,gS⟩:=h';have HA:=Hd ha;have HB:=Hd hb;clear ha hb gT gS
 by_cases hr:Za1 xs=true
 .
  by_cases g1:Za1 ys=true
  .
   by_cases hl:xs.length=ys.length
   .
    have HE:Hid (Zdh xs ys=0):=by unfold Zdh;rw[if_pos ⟨hr,g1⟩,if_pos hl];rfl
    have HF:Hid (Zdn xs ys=Zfx xs ys 0):=by unfold Zdn;rw[if_pos ⟨hr,g1,hl⟩];rfl
    have HR:=Hd hr;have g8:=Hd g1;have H3:((xs.length:Int) != ys.length)=false:=by simp[hl]
    clear hr g1 hl
    go_enter func211,ntmps211
    go_wp2_with fail;refine(Zbj _ _ xs _ HA.out (by omega)).mono ?_;rintro e w1 ⟨rfl,g0⟩;rw[HR.out];go_wp2_with fail;refine(Zbj _ _ ys _ (HB.out.below g0) (by omega)).mono ?_;rintro e w2 ⟨rfl,g7⟩;rw[g8.out];have g4:Below w.heap.size w w2:=g0.trans (g7.mono g0.size);go_wp2_with fail;refine(Zu7 _ _ xs _ (HA.out.below g4) (by omega)).mono ?_;rintro e w3 ⟨g,rfl,gc,gm⟩;have ga:=g4.size;have hg:w2.heap.size<=g:=(gc.lt g rfl).1;have h5:Below w.heap.size w w3:=g4.trans (gm.mono ga);have gN:w2.heap.size<=w3.heap.size:=gm.size;go_wp2_with fail
    go_loopw [6,30] (fun s6 s30 wr=>∃ (k:Nat) (cur out:List Int),k<=ys.length/\s30=.int .i64 k/\OwnI wr w2.heap.size (.slice (some ⟨g,0,none⟩) xs.length xs.length) cur/\cur.length=xs.length/\OwnI wr w2.heap.size s6 out/\s6.ownBlock≠some g/\out.length<=k*1000/\out++Zfx cur (ys.drop k) k=Zfx xs ys 0/\w2.heap.size<=wr.heap.size/\Below w2.heap.size w2 wr) (fun _ s30 _=>ys.length-(intOf s30).toNat)
    case atStart=>exact⟨0,xs,[],by omega,rfl,gc,rfl,Zgd _ _,by simp[Value.ownBlock],by simp,by simp,gN,gm⟩
    case round =>
     obtain⟨k,cur,out,hk,rfl,gk,gx,gf,gu,hf,gr,gM,g9⟩:=hrel;have gB:=Hd gr;have gn:=Hd gx;have h1:=Hd gu;have h7:cur.length<=1000:=by omega
     clear gr gx gu;have h3:=Hd (HB.out.below (g4.trans (g9.mono ga)))
     by_cases gv:k<ys.length
     .
      obtain⟨bb,off,rfl,h4⟩:=h3.out.cells k gv;have h2:=Hd (Zli cur ys k gv);have HCI:=Hd (gk.intsAt (by omega));go_wp2_with fail;refine(Zx3 gn.out.symm (HCI.out.drewN 0)).mono ?_;rintro e w' ⟨rfl,n,rfl⟩;have gt:=Zpy cur (at0 ys k);have hp2:=Zpz cur (at0 ys k);have gG:=Hd (Zxq cur (at0 ys k) k)
      generalize Zau cur (at0 ys k)=p at gt hp2 gG ⊢
      go_wp2_with fail;have gQ:p<xs.length\/p<=0:=by have:=gn.out;omega
      obtain⟨N,F,HN⟩:∃ (N F:List Int),Hid (N=(bub cur k (p-k).toNat).1/\F=out++(bub cur k (p-k).toNat).2):=⟨_,_,rfl,rfl⟩
      go_loopw [6,10] (fun s6 s10 wi=>∃ (d:Nat) (c1 o1:List Int) (q:Int),s10=.int .i64 q/\-1<=q/\q<=1000/\(q<xs.length\/q<=0)/\(q<=k->d=0)/\(k<q->q=k+d)/\OwnI wi w2.heap.size (.slice (some ⟨g,0,none⟩) xs.length xs.length) c1/\c1.length=xs.length/\OwnI wi w2.heap.size s6 o1/\s6.ownBlock≠some g/\o1.length+d<=(k+1)*1000/\N=(bub c1 k d).1/\F=o1++(bub c1 k d).2/\w2.heap.size<=wi.heap.size/\Below w2.heap.size w2 wi) (fun _ s10 _=>(intOf s10+1).toNat)
      case atStart=>exact⟨(p-k).toNat,cur,out,p,rfl,gt,by omega,gQ,by omega,by omega,gk.drewN n,gn.out,gf.drewN n,h1.out,by omega,HN.out.1,HN.out.2,gM,Zak g9 n⟩
      case round =>
       obtain⟨d,c1,o1,q,rfl,he,hd,gP,gj,gw,g3,gl,g6,gg,h6,hN,hF,ge,gd⟩:=hrel;have gD:=Hd hN;have gF:=Hd hF;have go:=Hd gl;have g5:=Hd gg;have h8:c1.length<=1000:=by omega
       clear hN hF gl gg
       by_cases hc:(k:Int)<q
       .
        obtain⟨d,rfl⟩:∃ l,d=l+1:=⟨d-1,by omega⟩;have gO:q=(k:Int)+d+1:=by omega
        subst gO;have gU:k+d+1<xs.length:=by omega
        have gJ:k+d+1<c1.length:=by rw[go.out];exact gU
        clear gj gw gP;have h9:IntKind.i64.wrap ((k:Int)+d+1-1)=((k+d:Nat):Int):=by rw[IntWalk.i64_in _ (by omega)];omega
        have q0:=g3.cell (k+d) (by omega);have q1:=g3.cell (k+d+1) (by omega);have p0:=g3.frozen (k+d);have p1:=g3.frozen (k+d+1);have t0:((k:Int)+d).toNat=k+d:=by omega
        have t1:((k:Int)+d+1).toNat=k+d+1:=by omega
        go_wp2_with fail
        go_region
        have gZ:=Hd (Zsn (zs:=c1) (k:=k+d) gJ);have gX:=((g3.stored (k+d) (at0 c1 (k+d+1))).stored (k+d+1) (at0 c1 (k+d))).drewN 1;have gR:=((g6.setCell_other (a:=⟨g,k+d,none⟩) g5.out (.int .i64 (at0 c1 (k+d+1)))).setCell_other (a:=⟨g,k+d+1,none⟩) g5.out (.int .i64 (at0 c1 (k+d)))).drewN 1;have gY:=Zak ((gd.setCell (p:=⟨g,k+d,none⟩) hg (.int .i64 (at0 c1 (k+d+1)))).setCell (p:=⟨g,k+d+1,none⟩) hg (.int .i64 (at0 c1 (k+d)))) 1;have gV:=(g3.lt g rfl).2;go_wp2_with (at_builtin;go_loud (refine Zcm _ rfl _ _ rfl w2.heap.size w2 _ o1 _ rfl rfl (by rfl) (by simp) gR (by omega) (by simpa using ge) gY ?_);intro v2 w4 gp gq gH gh);have gy:=gX.keep gh.keep (fun x hx gL=>by cases hx;exact g5.out gL.symm);rw[<- gZ.out] at gy;have gI:=gh.ne g5.out (by simpa using gV);go_roundw
        case rel=>exact⟨d,Zef c1 ((k+d:Nat):Int),o1++[((k+d:Nat):Int)],((k+d:Nat):Int),by go_num,by omega,by omega,by omega,by omega,by omega,gy,by rw[Zeb];exact go.out,gp,gI,by simp;omega,gD.out,by rw[gF.out,Zu0];simp,gH,gq⟩
        case measure=>simp[intOf];omega
       .
        obtain rfl:=gj (by omega);have h0:=Hd g6;have gz:N=c1:=gD.out;have gA:F=o1:=by rw[gF.out];simp[bub]
        have gC:=Hd gz;have gE:=Hd gA;clear gz gA gj gw g6
        go_wp2
        go_roundw
        case rel=>exact⟨k+1,N,F,by omega,by go_num,by rw[gC.out];exact g3,by rw[gC.out];exact go.out,by rw[gE.out];exact h0.out,g5.out,by rw[gE.out];omega,by
         rw[HN.out.1,HN.out.2,<- gB.out,h2.out,gG.out];simp,ge,gd⟩
        case measure=>simp[intOf];omega
     .
      obtain rfl:k=ys.length:=by omega
      have gi:Zfx xs ys 0=out:=by rw[<- gB.out];simp[Zfx]
      have gK:=Hd gi;clear gi
      go_wp2
      go_ret2
      exact Zgf HE.out (HF.out.trans gK.out) (gf.lower ga) (g4.trans (g9.mono ga))
   .
    have HE:Hid (Zdh xs ys=3):=by unfold Zdh;rw[if_pos ⟨hr,g1⟩,if_neg hl];rfl
    have HF:Hid (Zdn xs ys=[]):=by unfold Zdn;rw[if_neg (fun hh=>hl hh.2.2)];rfl
    have HR:=Hd hr;have g8:=Hd g1;have H3:((xs.length:Int) != ys.length)=true:=by simp;omega
    clear hr g1 hl
    go_enter func211,ntmps211
    go_wp2_with fail;refine(Zbj _ _ xs _ HA.out (by omega)).mono ?_;rintro e w1 ⟨rfl,g0⟩;rw[HR.out];go_wp2_with fail;refine(Zbj _ _ ys _ (HB.out.below g0) (by omega)).mono ?_;rintro e w2 ⟨rfl,g7⟩;rw[g8.out];go_wp2_with fail
    go_ret2
    exact Zgf HE.out HF.out (Zgd _ _) (g0.trans (g7.mono g0.size))
  .
   have HE:Hid (Zdh xs ys=1):=by unfold Zdh;rw[if_neg (fun hh=>g1 hh.2)];rfl
   have HF:Hid (Zdn xs ys=[]):=by unfold Zdn;rw[if_neg (fun hh=>g1 hh.2.1)];rfl
   have g2:Za1 ys=false:=by simpa using g1
   have HR:=Hd hr;have g8:=Hd g2;clear hr g1 g2
   go_enter func211,ntmps211
   go_wp2_with fail;refine(Zbj _ _ xs _ HA.out (by omega)).mono ?_;rintro e w1 ⟨rfl,g0⟩;rw[HR.out];go_wp2_with fail;refine(Zbj _ _ ys _ (HB.out.below g0) (by omega)).mono ?_;rintro e w2 ⟨rfl,g7⟩;rw[g8.out];go_wp2_with fail
   go_ret2
   exact Zgf HE.out HF.out (Zgd _ _) (g0.trans (g7.mono g0.size))
 .
  have HE:Hid (Zdh xs ys=1):=by unfold Zdh;rw[if_neg (fun hh=>hr hh.1)];rfl
  have HF:Hid (Zdn xs ys=[]):=by unfold Zdn;rw[if_neg (fun hh=>hr hh.1)];rfl
  have g2:Za1 xs=false:=by simpa using hr
  have HR:=Hd g2;clear hr g2
  go_enter func211,ntmps211
  go_wp2_with fail;refine(Zbj _ _ xs _ HA.out (by omega)).mono ?_;rintro e w1 ⟨rfl,g0⟩;rw[HR.out];go_wp2_with fail
  go_ret2
  exact Zgf HE.out HF.out (Zgd _ _) g0
end Go.Proofs.YtkbegdkpboklpaaGreat
namespace Go.Proofs
open Go.Proofs.Tryz
open Go.Shelf
end Go.Proofs
namespace Go.Proofs.YtkbegdkpboklpaaGreat
open Go.Proofs.Tryz
open Go.RowKit
open Go.RowKit
section
variable {K:Law}{n:Nat}{Od:List Nat->Prop}{room:Nat}{w0 w w':World}{mb:Nat}{fs:List (Int×BF)}{nx:Int}{o o':Own}{m m':ManD}{V V':Nat->BF}
theorem Za4.chg {R:Role->Prop}{a:Option Addr}{zs:List Int}(h:Za4 w a zs)(hc:Chg R o o' w w')(hn:∀ x,a=some x->o x.block=none):Za4 w' a zs :=
 ⟨h.len,fun k hk=>by
  obtain⟨b,off,rfl,hc1⟩:=h.cells k hk;exact⟨b,off,rfl,hc.cell (p:=⟨b,off+k,none⟩) hc1 (hn ⟨b,off,none⟩ rfl)⟩⟩
end
open Go.RowKit
section
variable {K:Law}{n:Nat}{Od:List Nat->Prop}{room:Nat}{w0 w w':World}{mb:Nat}{fs:List (Int×BF)}{nx:Int}{o o':Own}{m m':ManD}{V V':Nat->BF}
structure NewH (K:Law)(n:Nat)(Od:List Nat->Prop)(room:Nat)(w0:World)(mb:Nat)(fs:List (Int×BF))(nx:Int)(o:Own)(w:World)(m:ManD)(V:Nat->BF)(F:BF)(o':Own)(w':World)(m':ManD):Prop where
 sat:SatE K n Od room w0 mb (fs++[(nx,F)]) (nx+1) w' o' m' V
 waits:m'.waits=m.waits
 calls:m'.calls=m.calls
 nodes:Zab m'.d=Zab m.d
 vars:m'.d.vars=m.d.vars
 many:m'.d.pool.many=m.d.pool.many
 chg:Chg (fun _=>True) o o' w w'
theorem Zq9 (hK:Zec K)(h:SatE K n Od room w0 mb fs nx w o m V)(hn:nx<549755813888){k:Int}{F:BF}(hk:(k,F)∈fs) :
 Calls prog 88 #[.pointer (some ⟨mb,0,none⟩),.int .i64 k] w fun x w'=>x=.returned (.tuple #[.int .i64 nx,.int .i64 0])/\∃ o' m',NewH K n Od room w0 mb fs nx o w m V F o' w' m':=by
 obtain⟨f,hf,rfl⟩:=h.find hk;obtain⟨s,hs⟩:=h.is;obtain⟨c0,c1,c2,c3,c4,c5,f0⟩:=cells6 hs.blk;have hl:=Zip hs h.ok.handles.nodup hf;have hnx:=h.next
 have HG:=Hd (Zng hK h.is h.lt h.ok f (h.ok.handles.ok _ hf) (by rw[hnx];omega));have H:=Hd h;rw[hnx] at HG;clear hs h hf hk hnx
 go_enter func88,ntmps88
 go_wp2_with fail;refine HG.out.mono ?_;rintro x w1 ⟨rfl,o',m',hg⟩;have HQ:Hid (NewH K n Od room w0 mb fs nx o w m V (ef V f) o' w1 m'):=Hd ⟨H.out.gave hg,hg.waits,hg.calls,hg.nodes,hg.vars,hg.many,hg.chg⟩;clear hg;go_wp2_with fail
 go_ret2
 exact⟨rfl,_,_,HQ.out⟩
theorem Yav {N:Nat->Option BN}{e:Nat}(h:okE N e):okE N (enot e):=by
 unfold okE at h ⊢;rw[Zgw];exact h
theorem Zts (hK:Zec K)(h:SatE K n Od room w0 mb fs nx w o m V)(hn:nx<549755813888){k:Int}{F:BF}(hk:(k,F)∈fs) :
 Calls prog 45 #[.pointer (some ⟨mb,0,none⟩),.int .i64 k] w fun x w'=>x=.returned (.tuple #[.int .i64 nx,.int .i64 0])/\∃ o' m',NewH K n Od room w0 mb fs nx o w m V (fun ρ => !F ρ) o' w' m':=by
 obtain⟨f,hf,rfl⟩:=h.find hk;obtain⟨s,hs⟩:=h.is;obtain⟨c0,c1,c2,c3,c4,c5,f0⟩:=cells6 hs.blk;have hl:=Zip hs h.ok.handles.nodup hf;have hnx:=h.next
 have g0:=h.ok.handles.ok _ hf;have g1:f<eMax:=by
  obtain⟨s2,h2⟩:=hs.store;have:=h2.edge_lt g0;unfold eMax;omega
 have HG:=Hd (Zng hK h.is h.lt h.ok (enot f) (Yav g0) (by rw[hnx];omega));have g2:=Hd (Zrf f w g1);have H:=Hd h;rw[hnx] at HG;clear hs h hf hk hnx g0 g1
 go_enter func45,ntmps45
 go_wp2_with fail;refine g2.out.mono ?_;rintro x w1 ⟨rfl,rfl⟩;go_wp2_with fail;refine HG.out.mono ?_;rintro x w1 ⟨rfl,o',m',hg⟩
 have HQ:Hid (NewH K n Od room w0 mb fs nx o w m V (fun ρ => !ef V f ρ) o' w1 m'):=Hd (by
  have e:(fun ρ => !ef V f ρ)=ef V (enot f):=by funext ρ;rw[Zi2]
  rw[e];exact⟨H.out.gave hg,hg.waits,hg.calls,hg.nodes,hg.vars,hg.many,hg.chg⟩)
 clear hg;go_wp2_with fail
 go_ret2
 exact⟨rfl,_,_,HQ.out⟩
end
open Go.RowKit
def delK {α:Type}(k:Int)(l:List (Int×α)):List (Int×α):=l.filter fun p=>decide (p.1≠k)
theorem Zkt {α:Type}{k:Int}{l:List (Int×α)}(h:∀ p∈l,p.1≠k):delK k l=l:=by
 unfold delK;rw[List.filter_eq_self];intro p hp;simp[h p hp]
theorem Zgc {α:Type}{x:Int×α}{l:List (Int×α)}(h:((x::l).map Prod.fst).Nodup):∀ p∈l,p.1≠x.1:=by
 intro p hp e;rw[List.map_cons,List.nodup_cons] at h;exact h.1 (List.mem_map.2 ⟨p,hp,e⟩)
theorem Zjj {α:Type}{x:Int×α}{l:List (Int×α)}(h:((x::l).map Prod.fst).Nodup):delK x.1 (x::l)=l:=by
 have h1:=Zkt (Zgc h);unfold delK at h1 ⊢;rw[List.filter_cons_of_neg (by simp),h1]
theorem Zjk {α:Type}{k:Int}{x:Int×α}{l:List (Int×α)}(h:x.1≠k):delK k (x::l)=x::delK k l:=by
 unfold delK;rw[List.filter_cons_of_pos (by simp[h])]
theorem Zil {α:Type}{k:Int}:∀ (l:List (Int×α)) (j:Nat) (hj:j<l.length),(l.map Prod.fst).Nodup->l[j].1=k->l.eraseIdx j=delK k l
 | x::l,0,_,hn,hk=>by
   have e:x.1=k:=hk;subst e;rw[Zjj hn];rfl
 | x::l,j+1,hj,hn,hk=>by
   have hj':j<l.length:=by simpa using hj
   have g0:l[j].1=k:=by simpa using hk
   have hx:x.1≠k:=by
    intro e;exact Zgc hn l[j] (List.getElem_mem hj') (g0.trans e.symm)
   have g1:(l.map Prod.fst).Nodup:=by rw[List.map_cons,List.nodup_cons] at hn;exact hn.2
   rw[Zjk hx,List.eraseIdx_cons_succ,Zil l j hj' g1 g0]
theorem Zrw {α β:Type}(k:Int)(l:List (Int×α))(g:Int×α->Int×β)(hg:∀ p,(g p).1=p.1):(delK k l).map g=delK k (l.map g):=by
 unfold delK;rw[List.filter_map];congr 1;refine List.filter_congr fun p _=>?_
 simp[hg]
theorem Zz7 {k:Int}{l:List (Int×Value)}(hn:(l.map Prod.fst).Nodup){v:Value}(hk:(k,v)∈l):delL k l=delK k l:=by
 unfold delL;cases e:Zdq k l 0 with
 | none =>
   have h1:=Zdl hn hk;unfold getL at h1;rw[e] at h1;cases h1
 | some p =>
   obtain⟨j,u⟩:=p;have h2:=Zc7 e;obtain⟨q,h3,h4⟩:=h2;have hq:j=q:=by omega
   subst hq;obtain⟨h5,h6⟩:=List.getElem?_eq_some_iff.1 h4;exact Zil l j h5 hn (by rw[h6])
theorem Zka {α:Type}{k:Int}{l:List (Int×α)}{p:Int×α}:p∈delK k l↔p∈l/\p.1≠k:=by
 unfold delK;rw[List.mem_filter];simp
theorem Zse {k:Int}{f:Nat}(h1:1<k):∀ (hs:List (Int×Nat)),(hs.map Prod.fst).Nodup->(k,f)∈hs->∀ i,Zb7 hs i=Zb7 (delK k hs) i+(if f/2=i then 1 else 0)
 | [],_,h,_=>by cases h
 | x::l,hn,hm,i=>by
   have hn':(l.map Prod.fst).Nodup:=by rw[List.map_cons,List.nodup_cons] at hn;exact hn.2
   by_cases e:x.1=k
   .
    have hx:x=(k,f):=by
     rcases List.mem_cons.1 hm with h|h
     . exact h.symm
     . exact((Zgc hn _ h) e.symm).elim
    subst hx;rw[Zjj hn];unfold Zb7
    by_cases e2:f/2=i
    . rw[List.filter_cons_of_pos (by simp[h1,e2]),List.length_cons,if_pos e2]
    . rw[List.filter_cons_of_neg (by simp[e2]),if_neg e2];rfl
   .
    have g0:(k,f)∈l:=by
     rcases List.mem_cons.1 hm with h|h
     . rw[<- h] at e;exact(e rfl).elim
     . exact h
    have ih:=Zse h1 l hn' g0 i;rw[Zjk e];unfold Zb7 at ih ⊢
    by_cases e3:(decide (1<x.1)&&x.2/2 == i)=true
    . rw[List.filter_cons_of_pos (p:=fun p:Int×Nat=>decide (1<p.1)&&p.2/2 == i) e3,List.filter_cons_of_pos (p:=fun p:Int×Nat=>decide (1<p.1)&&p.2/2 == i) e3,List.length_cons,List.length_cons];omega
    . rw[List.filter_cons_of_neg (p:=fun p:Int×Nat=>decide (1<p.1)&&p.2/2 == i) e3,List.filter_cons_of_neg (p:=fun p:Int×Nat=>decide (1<p.1)&&p.2/2 == i) e3];exact ih
theorem Zo6 {m:ManD}{d':Zag}{k:Int}{f:Nat}(h:Zca m)(r:Zgo m.d d' f (-1))(hk:(k,f)∈m.hs)(h1:1<k)(h0:Zab m.d 0=none):Zca { m with d:=d',hs:=delK k m.hs }:=by
 have g1:∀ {p:Int×Nat},p∈delK k m.hs->p∈m.hs:=fun hp=>(Zka.1 hp).1
 refine⟨?_,Zka.2 ⟨h.zero,by dsimp only;omega⟩,Zka.2 ⟨h.one,by dsimp only;omega⟩,fun p hp=>h.lt p (g1 hp),h.next,fun p hp=>?_,?_,fun i b hb=>?_⟩
 . exact h.nodup.sublist ((List.filter_sublist).map _)
 .
  show okE (Zab d') p.2
  rw[r.nodes];exact h.ok p (g1 hp)
 .
  have h2:(delK k m.hs).length<=m.hs.length:=List.length_filter_le _ _;have h3:=h.len
  show ((delK k m.hs).length:Int)<=m.next
  omega
 .
  have g0:Zab m.d i=some b:=by
   have:Zab d' i=some b:=hb;rw[r.nodes] at this;exact this
  have hi:i≠0:=by rintro rfl;rw[h0] at g0;cases g0
  show Za0 d' i=(Zb7 (delK k m.hs) i:Int)
  rw[r.ext i hi,h.refs i b g0,Zse h1 m.hs h.nodup hk i];unfold toE;split<;>(simp;try omega)
section
variable {K:Law}{n:Nat}{Od:List Nat->Prop}{room:Nat}{w0 w w':World}{mb:Nat}{fs:List (Int×BF)}{nx:Int}{o o':Own}{m m':ManD}{V V':Nat->BF}
theorem Zqg {sb:Nat}(h:Zax o w sb m.d)(hlt:Zal o w)(hk:Zsv m V){k:Int}{f:Nat}(hf:(k,f)∈m.hs)(h1:1<k)(hn:m.next<549755813888) :
 Calls prog 143 #[.pointer (some ⟨sb,0,none⟩),.int .i64 f] w fun x w'=>x=.returned (.int .i64 0)/\∃ d',Zax o w' sb d'/\Zal o w'/\Zgo m.d d' f (-1)/\Chg Zar o o w w':=by
 have g0:∀ y b,Zab m.d y=some b->Za0 m.d y<1099511627776:=fun y b _=>by have:=Zzh hk.handles y;omega
 have g1:=hk.handles.ok _ hf;obtain⟨s,h⟩:=h;have g2:=h.edge_lt g1;rcases g1 with h0|⟨b,hb⟩
 . refine(Zl4 h hlt hk.store.live f (by unfold eMax;omega) h0).mono ?_;rintro e w' ⟨d',h1,h2,h3,h4,h5⟩;exact⟨h1,d',⟨s,h2⟩,h3,h4,h5⟩
 .
  have g4:=h.pool.top;have g3:=h.pool.room;refine(Zl3 h hlt hk.store.live (Zze hk.store) f (b:=b) hb g0 ?_ (fun y c hc=>?_)).mono ?_
  . have h2:=hk.handles.refs (enode f) b hb;have h3:0<Zb7 m.hs (f/2):=Zsf hf h1;have h4:Za0 m.d (enode f)=(Zb7 m.hs (f/2):Int):=h2;omega
  . have h1:=hk.store.live.cnt.le hc;have h2:=g0 y c hc;omega
  . rintro e w' ⟨d',h1,h2,h3,h4,h5⟩;exact⟨h1,d',⟨s,h2⟩,h3,h4,h5⟩
end
open Go.RowKit
def Zhs {α:Type}(l:List (Int×α))(ks:List Int):List (Int×α):=ks.foldl (fun l k=>if 1<k then delK k l else l) l
theorem Zme {α:Type}{l:List (Int×α)}{ks:List Int}{j:Nat}(hj:j<ks.length):Zhs l (ks.take (j+1))=if 1<at0 ks j then delK (at0 ks j) (Zhs l (ks.take j)) else Zhs l (ks.take j):=by
 unfold Zhs;rw[List.take_succ_eq_append_getElem hj,List.foldl_append,Za8 hj];rfl
section
variable {K:Law}{n:Nat}{Od:List Nat->Prop}{room:Nat}{w0 w w':World}{mb:Nat}{fs:List (Int×BF)}{nx:Int}{o o':Own}{m m':ManD}{V V':Nat->BF}
structure Zjy (K:Law)(n:Nat)(Od:List Nat->Prop)(room:Nat)(w0:World)(mb:Nat)(fs:List (Int×BF))(nx:Int)(o:Own)(w:World)(m:ManD)(V:Nat->BF)(o':Own)(w':World)(m':ManD):Prop where
 sat:SatE K n Od room w0 mb fs nx w' o' m' V
 waits:m'.waits=m.waits
 calls:m'.calls=m.calls
 nodes:Zab m'.d=Zab m.d
 many:m'.d.pool.many=m.d.pool.many
 chg:Chg (fun _=>True) o o' w w'
theorem Zjy.trans {fs' fs'':List (Int×BF)}{o'':Own}{w'':World}{m'':ManD}(h:Zjy K n Od room w0 mb fs' nx o w m V o' w' m')(h':Zjy K n Od room w0 mb fs'' nx o' w' m' V o'' w'' m''):Zjy K n Od room w0 mb fs'' nx o w m V o'' w'' m'' :=
 ⟨h'.sat,h'.waits.trans h.waits,h'.calls.trans h.calls,h'.nodes.trans h.nodes,h'.many.trans h.many,h.chg.trans h'.chg⟩
theorem Zxv (hK:Zec K)(h:SatE K n Od room w0 mb fs nx w o m V){k:Int}{f:Nat}(hf:(k,f)∈m.hs)(h1:1<k){s:ManW}(hs:Zcg (K m.d V) o w mb m s){w1:World}{d':Zag}(hst:Zax o w1 s.sb d')(hl1:Zal o w1)(hr:Zgo m.d d' f (-1))(hc1:Chg Zar o o w w1) :
 Zcg (K m.d V) o w1 mb { m with d:=d' } s/\∃ w2,(Builtin.delete_ #[131,3] 0 #[.map (some s.hb),.int .i64 k]).run prog w1=.ok (.tuple #[]) w2/\Zjy K n Od room w0 mb (delK k fs) nx o w m V o w2 { m with d:=d',hs:=delK k m.hs }:=by
 have g0:=hs.setStore h.lt hst hc1;refine⟨g0,?_⟩;obtain⟨w2,g3,g5,g1⟩:=g0.map.delete kI underlying131 k 0;refine⟨w2,g3,?_⟩;have he:delL k (encH m.hs)=encH (delK k m.hs):=by
  rw[Zz7 (Zer h.ok.handles.nodup) (v:=.int .i64 (f:Nat)) (List.mem_map.2 ⟨(k,f),hf,rfl⟩)];exact(Zrw k m.hs (fun p=>(p.1,Value.int .i64 (p.2:Nat))) (fun _=>rfl)).symm
 have g4:Zcw w2 s.hb (Value.int .i64) (encH (delK k m.hs)):=by rw[<- he];exact g5
 have g7:=g0.setMap hl1 g4 g1;have g6:Zal o w2:=hl1.mono g1.size;have g2:Chg (fun _=>True) o o w w2:=hc1.any.grown g1 (fun g hg=>by cases hg;exact⟨_,g0.ownh,trivial⟩);refine⟨⟨⟨s,g7.mono fun op a b c r q=>hK.same _ _ _ _ _ _ _ _ hr.vars hr.level hr.nodes q⟩,g6,⟨hr.ok h.ok.store,Zo6 h.ok.handles hr hf h1 h.ok.store.dag.none0⟩,?_,?_,?_,h.next,?_,h.chg.lower (ChgX.of_chg g2 NoB) (fun _ e=>e.elim)⟩,rfl,rfl,hr.nodes,hr.many,g2⟩
 .
  show d'.vars.length=n
  rw[hr.vars];exact h.vars
 .
  show Od d'.vars
  rw[hr.vars];exact h.od
 .
  show d'.pool.room=room
  rw[hr.room];exact h.room
 .
  show (delK k m.hs).map (fun p=>(p.1,ef V p.2))=delK k fs
  rw[Zrw k m.hs (fun p=>(p.1,ef V p.2)) (fun _=>rfl),h.hs]
theorem Zra (hK:Zec K)(h:SatE K n Od room w0 mb fs nx w o m V)(hn:nx<549755813888){a:Option Addr}{c:Nat}{ks:List Int}(hks:Za4 w a ks)(hno:∀ x,a=some x->o x.block=none)
 (hin:∀ j,j<ks.length->∃ F,(at0 ks j,F)∈Zhs fs (ks.take j)) :
 Calls prog 87 #[.pointer (some ⟨mb,0,none⟩),.slice a ks.length c] w fun x w'=>x=.returned (.int .i64 0)/\∃ o' m',Zjy K n Od room w0 mb (Zhs fs ks) nx o w m V o' w' m':=by
 have gk:=hks.len;have g5:Hid (∃ o' m',Zjy K n Od room w0 mb (Zhs fs (ks.take 0)) nx o w m V o' w m'/\Za4 w a ks/\(∀ x,a=some x->o' x.block=none)):=Hd ⟨o,m,⟨h,rfl,rfl,rfl,rfl,Chg.refl _ _ _⟩,hks,hno⟩;have gh:=Hd hin;have HN:=Hd hn;have gg:=Hd hK;clear h hn hks hno hin hK
 go_enter func87,ntmps87
 go_wp2_with fail
 go_loopw [13] (fun s13 wr=>∃ j:Nat,j<=ks.length/\s13=.int .i64 j/\Hid (∃ o' m',Zjy K n Od room w0 mb (Zhs fs (ks.take j)) nx o w m V o' wr m'/\Za4 wr a ks/\(∀ x,a=some x->o' x.block=none))) (fun s13 _=>ks.length-(intOf s13).toNat)
 case atStart=>exact⟨0,Nat.zero_le _,rfl,g5⟩
 case round =>
  obtain⟨j,hj,rfl,HH⟩:=hrel;obtain⟨oj,mj,hh,hi,hno⟩:=HH.out
  by_cases g6:j<ks.length
  .
   obtain⟨b,off,rfl,g3⟩:=hi.cells j g6;obtain⟨s,hs⟩:=hh.sat.is;obtain⟨c0,c1,c2,c3,c4,c5,f0⟩:=cells6 hs.blk;have gl:(j:Int)<ks.length:=by omega
   obtain⟨z,hz⟩:∃ z,z=at0 ks j:=⟨_,rfl⟩;obtain⟨F,hF⟩:=gh.out j g6;rw[<- hz] at hF g3;obtain⟨f,hf,gc⟩:=hh.sat.find hF;have hl:=Zip hs hh.sat.ok.handles.nodup hf;have g8:=Hd hh;have gf:=Hd hi;have g7:=Hd hno;have gi:Hid (b<wr.heap.size):=Hd (Zaa g3);have g2:=Hd g6;have HZ:=Hd hz;have HS:=Hd hs;have HF:=Hd hf
   by_cases h1:z>1
   .
    have HD:=Hd (Zqg hs.store hh.sat.lt hh.sat.ok hf h1 (by rw[hh.sat.next];exact HN.out));have H1:=Hd h1;clear hh hi hno hs HH g5 hz hF hf gc;go_wp2_with fail;refine HD.out.mono ?_;rintro x w1 ⟨rfl,d',g9,ga,hr,gd⟩;obtain⟨ge,w2,gj,g4⟩:=Zxv gg.out g8.out.sat HF.out H1.out HS.out g9 ga hr gd;obtain⟨e0,e1,e2,e3,e4,e5,g0⟩:=cells6 ge.blk
    have g1:Hid (Zjy K n Od room w0 mb (Zhs fs (ks.take (j+1))) nx o w m V oj w2 { mj with d:=d',hs:=delK z mj.hs }/\Za4 w2 (some ⟨b,off,none⟩) ks/\(∀ x,some (⟨b,off,none⟩:Addr)=some x->oj x.block=none)):=Hd ⟨by
     rw[Zme g2.out,<- HZ.out,if_pos H1.out];exact g8.out.trans g4,gf.out.chg g4.chg g7.out,fun x hx=>g4.chg.alien' (by cases hx;exact gi.out) (g7.out x hx)⟩
    clear ge g9 ga hr gd g4 c0 c1 c2 c3 c4 c5 f0 g3 hl;go_wp2_with fail;go_roundw
    case rel=>exact⟨j+1,Nat.succ_le_of_lt g2.out,by go_num,Hd ⟨_,_,g1.out.1,g1.out.2.1,g1.out.2.2⟩⟩
    case measure =>
     have:=g2.out;simp[intOf];omega
   .
    have g1:Hid (Zjy K n Od room w0 mb (Zhs fs (ks.take (j+1))) nx o w m V oj wr mj/\Za4 wr (some ⟨b,off,none⟩) ks/\(∀ x,some (⟨b,off,none⟩:Addr)=some x->oj x.block=none)):=Hd ⟨by
     rw[Zme g2.out,<- HZ.out,if_neg h1];exact g8.out,gf.out,g7.out⟩
    clear hh hi hno hs HH g5 hz hF hf gc;go_wp2_with fail;go_roundw
    case rel=>exact⟨j+1,Nat.succ_le_of_lt g2.out,by go_num,Hd ⟨_,_,g1.out.1,g1.out.2.1,g1.out.2.2⟩⟩
    case measure =>
     have:=g2.out;simp[intOf];omega
  .
   obtain rfl:j=ks.length:=by omega
   have HF:Hid (∃ o' m',Zjy K n Od room w0 mb (Zhs fs ks) nx o w m V o' wr m'):=Hd ⟨oj,mj,by rw[List.take_length] at hh;exact hh⟩;clear hh hi hno HH g5;go_wp2_with fail;go_ret;exact⟨rfl,HF.out⟩
end
open Go.RowKit
section
variable {K:Law}{n:Nat}{Od:List Nat->Prop}{room:Nat}{w0 w w':World}{mb:Nat}{fs:List (Int×BF)}{nx:Int}{o o':Own}{m m':ManD}{V V':Nat->BF}
structure Swapped (K:Law)(n room:Nat)(w0:World)(mb:Nat)(fs:List (Int×BF))(nx:Int)(k:Nat)(o:Own)(w:World)(m:ManD)(o':Own)(w':World)(m':ManD)(V':Nat->BF):Prop where
 sat:SatE K n (fun l=>l=(Zep m.d k).vars) room w0 mb fs nx w' o' m' V'
 waits:m'.waits=m.waits
 calls:m'.calls=m.calls
 dead:m'.d.dead=0
 chg:Chg (fun _=>True) o o' w w'
theorem Zmo (h:SatE K n Od room w0 mb fs nx w o m V){k:Nat}(hk1:k+1<n)(hn:nx<=549755813888)(hr:3*(fs.length*2^n)<=room) :
 Calls prog 130 #[.pointer (some ⟨mb,0,none⟩),.int .i64 k] w fun e w'=>e=.returned (.int .i64 0)/\∃ o' m' V',Swapped K n room w0 mb fs nx k o w m o' w' m' V':=by
 refine(Zrd h hk1 hn).mono ?_;rintro e w' ⟨o',m',V',hm⟩;obtain⟨d0,cr,⟨rfl,e1,e2,g0⟩|⟨rfl,so⟩⟩:=hm.way
 . exfalso;have h1:=hm.sat.few (by rw[e1];exact cr.dead);have h2:=hm.sat.room;rw[e1] at h1 h2;omega
 . refine⟨rfl,o',m',V',⟨hm.sat.withOd ?_,hm.waits,hm.calls,so.dead,hm.chg⟩⟩;rw[so.vars];unfold Zep;dsimp only;rw[cr.vars]
end
open Go.RowKit
theorem Zpo {α:Type}{p:Int×α}:∀ {ks:List Int} {l:List (Int×α)},p∈l->p.1∉ks->p∈Zhs l ks
 | [],l,h,_=>h
 | k::ks,l,h,hn=>by
   show p∈Zhs (if 1<k then delK k l else l) ks
   simp only[List.mem_cons,not_or] at hn;refine Zpo ?_ hn.2;split
   . exact Zka.2 ⟨h,hn.1⟩
   . exact h
theorem Zxu {α:Type}{l r:List (Int×α)}{p:Int×α}(h:((l++p::r).map Prod.fst).Nodup):delK p.1 (l++p::r)=l++r:=by
 rw[List.map_append,List.map_cons,List.nodup_append] at h;obtain⟨h1,h2,h3⟩:=h;have hl:∀ q∈l,q.1≠p.1:=fun q hq e=>h3 q.1 (List.mem_map.2 ⟨q,hq,rfl⟩) p.1 (List.mem_cons_self ..) e
 have hr:∀ q∈r,q.1≠p.1:=fun q hq e=>(List.nodup_cons.1 h2).1 (List.mem_map.2 ⟨q,hq,e⟩)
 have e1:delK p.1 (l++p::r)=delK p.1 l++delK p.1 r:=by
  unfold delK;rw[List.filter_append,List.filter_cons];simp
 rw[e1,Zkt hl,Zkt hr]
theorem Zox {α:Type}:∀ (hs l r:List (Int×α)),((l++(hs++r)).map Prod.fst).Nodup->(∀ p∈hs,1<p.1)->Zhs (l++(hs++r)) (hs.map Prod.fst)=l++r
 | [],l,r,_,_=>rfl
 | p::hs,l,r,hn,h1=>by
   show Zhs (if 1<p.1 then delK p.1 (l++(p::(hs++r))) else l++(p::(hs++r))) (hs.map Prod.fst)=_
   have hn':((l++p::(hs++r)).map Prod.fst).Nodup:=hn;rw[if_pos (h1 p (List.mem_cons_self ..)),Zxu hn'];refine Zox hs l r ?_ (fun q hq=>h1 q (List.mem_cons_of_mem _ hq));have:=hn;rw[List.map_append,List.nodup_append] at this ⊢;obtain⟨q1,q2,q3⟩:=this;exact⟨q1,(List.nodup_cons.1 q2).2,fun x hx y hy=>q3 x hx y (List.mem_cons_of_mem _ hy)⟩
section
variable {K:Law}{n:Nat}{Od:List Nat->Prop}{room:Nat}{w0 w w':World}{mb:Nat}{fs:List (Int×BF)}{nx:Int}{o o':Own}{m m':ManD}{V V':Nat->BF}
theorem SatE.fst (h:SatE K n Od room w0 mb fs nx w o m V):fs.map Prod.fst=m.hs.map Prod.fst:=by rw[<- h.hs,List.map_map];rfl
theorem SatE.nodup (h:SatE K n Od room w0 mb fs nx w o m V):(fs.map Prod.fst).Nodup:=by rw[h.fst];exact h.ok.handles.nodup
theorem SatE.range (h:SatE K n Od room w0 mb fs nx w o m V):∀ p∈fs,0<=p.1/\p.1<nx:=by
 intro p hp;rw[<- h.hs] at hp;obtain⟨q,hq,rfl⟩:=List.mem_map.1 hp;rw[<- h.next];exact h.ok.handles.lt q hq
structure B2 (fs:List (Int×BF)):Prop where
 zero:(0,fun _=>false)∈fs
 one:(1,fun _=>true)∈fs
theorem B2.app {fs:List (Int×BF)}(h:B2 fs)(hs:List (Int×BF)):B2 (fs++hs):=⟨List.mem_append_left _ h.zero,List.mem_append_left _ h.one⟩
theorem SatE.gt {hs:List (Int×BF)}(h:SatE K n Od room w0 mb (fs++hs) nx w o m V)(hb:B2 fs):∀ p∈hs,1<p.1:=by
 intro p hp;have h1:=(h.range p (List.mem_append_right _ hp)).1;have h2:=h.nodup;rw[List.map_append,List.nodup_append] at h2;have h3:=fun k hk=>h2.2.2 k hk p.1 (List.mem_map.2 ⟨p,hp,rfl⟩)
 have h4:=h3 0 (List.mem_map.2 ⟨_,hb.zero,rfl⟩);have h5:=h3 1 (List.mem_map.2 ⟨_,hb.one,rfl⟩);omega
theorem Zrb (hK:Zec K){hs r:List (Int×BF)}(h:SatE K n Od room w0 mb (fs++(hs++r)) nx w o m V)(hb:B2 fs)(hn:nx<549755813888){a:Option Addr}{c:Nat}(hks:Za4 w a (hs.map Prod.fst))(hno:∀ x,a=some x->o x.block=none) :
 Calls prog 87 #[.pointer (some ⟨mb,0,none⟩),.slice a hs.length c] w fun x w'=>x=.returned (.int .i64 0)/\∃ o' m',Zjy K n Od room w0 mb (fs++r) nx o w m V o' w' m':=by
 have g0:=h.nodup;have g3:=h.gt hb;have e:Zhs (fs++(hs++r)) (hs.map Prod.fst)=fs++r:=Zox hs fs r g0 (fun p hp=>g3 p (List.mem_append_left _ hp));have:=Zra hK h hn (c:=c) hks hno fun j hj=>by
  have g1:j<hs.length:=by simpa using hj
  have e1:at0 (hs.map Prod.fst) j=hs[j].1:=by rw[Za8 hj];simp
  refine⟨hs[j].2,?_⟩;rw[e1];refine Zpo (List.mem_append_right _ (List.mem_append_left _ (List.getElem_mem g1))) ?_;rw[List.map_append,List.nodup_append,List.map_append,List.nodup_append] at g0;have hh:=g0.2.1.1;intro hc;obtain⟨i,hi,e2⟩:=List.getElem_of_mem hc;have g2:i<j:=by simp at hi;omega
  rw[List.getElem_take] at e2;exact(List.pairwise_iff_getElem.1 hh) i j (by simp;omega) hj g2 (by rw[e2];simp)
 rw[e,List.length_map] at this;exact this
theorem Zms {M k:Nat}{F:BF}{x:Ending}(hp:Zkj K n Od room w0 mb fs nx [] (some M) k F o w x w') :
 ∃ o' m' V',ChgX NoB o o' w w'/\(m'.waits=[]/\m'.d.pool.many<=M+k)/\x=.returned (.tuple #[.int .i64 nx,.int .i64 0])/\SatE K n Od room w0 mb (fs++[(nx,F)]) (nx+1) w' o' m' V':=by
 obtain⟨o',m',V',h1,h2,⟨h3,h5,h4⟩|⟨_,h,_⟩⟩:=hp
 . exact⟨o',m',V',h1,⟨by simpa using h2,h5 M rfl⟩,h3,h4⟩
 . cases h
end
open Go.RowKit
def cntT:Nat->(Nat->Bool)->Nat
 | 0,_=>0
 | k+1,f=>cntT k f+(if f k then 1 else 0)
theorem Zfs (k:Nat)(f:Nat->Bool):cntT (k+1) f=cntT k f+(if f k then 1 else 0):=rfl
theorem Zu9 (f:Nat->Bool):∀ k,cntT k f<=k
 | 0=>Nat.le_refl _
 | k+1=>by
   have:=Zu9 f k;rw[Zfs];split<;>omega
def opB (op:Int)(n:Nat)(f:Nat->Bool):Bool :=
 if op=1 then true else if op=4 then decide (cntT n f=0) else if op=5 then decide (cntT n f=n) else if op=6 then decide (0<cntT n f) else if op=7 then decide (cntT n f%2=1)
 else if op=8 then (!f 0||f 1) else if op=9 then decide (cntT n f≠1) else if op=10 then iteB (f 0) (f 1) (f 2) else false
def fnT:ExT->BF
 | .nil=>fun _=>false
 | .mk op v n kid=>fun ρ=>if op=3 then ρ v.toNat else opB op n fun i=>fnT (kid i) ρ
def notF (F:BF):BF:=fun ρ => !F ρ
def Zpf (op:Int)(F G:BF):BF :=
 if op=5 then Zfl F G (fun _=>false) else if op=6 then Zfl F (fun _=>true) G else if op=8 then Zfl F G (fun _=>true) else if op=7 then Zfl F (notF G) G else Zfl F G (notF G)
def accT (op:Int)(kid:Nat->ExT):Nat->BF
 | 0=>fun _=>decide (op=5)
 | k+1=>Zpf op (accT op kid k) (fnT (kid k))
theorem Zzb (kid:Nat->ExT)(ρ:Nat->Bool):∀ k,accT 5 kid k ρ=decide (cntT k (fun i=>fnT (kid i) ρ)=k)
 | 0=>rfl
 | k+1=>by
   have h1:accT 5 kid (k+1) ρ=iteB (accT 5 kid k ρ) (fnT (kid k) ρ) false:=rfl;have h2:=Zu9 (fun i=>fnT (kid i) ρ) k;rw[h1,Zzb kid ρ k,Zfs];unfold iteB;cases hf:fnT (kid k) ρ
   .
    have:(cntT k fun i=>fnT (kid i) ρ)+0≠k+1:=by omega
    simp only[Bool.false_eq_true,if_false,decide_eq_false this];split<;>rfl
   . simp
theorem Zzc (kid:Nat->ExT)(ρ:Nat->Bool):∀ k,accT 6 kid k ρ=decide (0<cntT k (fun i=>fnT (kid i) ρ))
 | 0=>rfl
 | k+1=>by
   have h1:accT 6 kid (k+1) ρ=iteB (accT 6 kid k ρ) true (fnT (kid k) ρ):=rfl;rw[h1,Zzc kid ρ k,Zfs];unfold iteB;cases hf:fnT (kid k) ρ<;>simp
theorem Zzd (kid:Nat->ExT)(ρ:Nat->Bool):∀ k,accT 7 kid k ρ=decide (cntT k (fun i=>fnT (kid i) ρ)%2=1)
 | 0=>rfl
 | k+1=>by
   have h1:accT 7 kid (k+1) ρ=iteB (accT 7 kid k ρ) (!(fnT (kid k) ρ)) (fnT (kid k) ρ):=rfl;rw[h1,Zzd kid ρ k,Zfs];unfold iteB;rcases Nat.mod_two_eq_zero_or_one (cntT k fun i=>fnT (kid i) ρ) with e|e
   . cases hf:fnT (kid k) ρ<;>simp[e]<;>omega
   . cases hf:fnT (kid k) ρ<;>simp[e]<;>omega
theorem Yaf {op:Int}(h:op=5\/op=6\/op=7)(v:Int)(n:Nat)(kid:Nat->ExT):fnT (.mk op v n kid)=accT op kid n:=by
 funext ρ;rcases h with rfl|rfl|rfl
 . rw[Zzb];rfl
 . rw[Zzc];rfl
 . rw[Zzd];rfl
theorem Zru (f:Nat->Bool):cntT 1 f=if f 0 then 1 else 0:=by rw[Zfs];exact Nat.zero_add _
theorem Zxr (f:Nat->Bool):cntT 2 f=(if f 0 then 1 else 0)+(if f 1 then 1 else 0):=by rw[Zfs,Zru]
theorem Yah (v:Int)(kid:Nat->ExT):fnT (.mk 4 v 1 kid)=notF (fnT (kid 0)):=by
 funext ρ
 show decide (cntT 1 (fun i=>fnT (kid i) ρ)=0) = !(fnT (kid 0) ρ)
 rw[Bool.eq_iff_iff,decide_eq_true_iff,Zru];cases fnT (kid 0) ρ<;>simp
theorem Yag (v:Int)(kid:Nat->ExT):fnT (.mk 10 v 3 kid)=Zfl (fnT (kid 0)) (fnT (kid 1)) (fnT (kid 2)):=rfl
theorem Zxy {op:Int}(h:op=8\/op=9)(v:Int)(kid:Nat->ExT):fnT (.mk op v 2 kid)=Zpf op (fnT (kid 0)) (fnT (kid 1)):=by
 funext ρ;rcases h with rfl|rfl
 .
  show (!fnT (kid 0) ρ||fnT (kid 1) ρ)=iteB (fnT (kid 0) ρ) (fnT (kid 1) ρ) true
  unfold iteB;cases fnT (kid 0) ρ<;>simp
 .
  show decide (cntT 2 (fun i=>fnT (kid i) ρ)≠1)=iteB (fnT (kid 0) ρ) (fnT (kid 1) ρ) (!fnT (kid 1) ρ)
  rw[Bool.eq_iff_iff,decide_eq_true_iff,Zxr];unfold iteB;cases fnT (kid 0) ρ<;>cases fnT (kid 1) ρ<;>simp
theorem Zo3 {op:Int}(h:op=1\/op=2)(v:Int)(n:Nat)(kid:Nat->ExT):fnT (.mk op v n kid)=fun _=>decide (op=1):=by
 rcases h with rfl|rfl<;>rfl
theorem Yai (v:Nat)(n:Nat)(kid:Nat->ExT):fnT (.mk 3 v n kid)=varF v:=by
 funext ρ;rfl
theorem Zpp {f:Nat->List Int}{i:Nat}{x:Int}:∀ {n:Nat},i<n->x∈f i->x∈Zht n f
 | 0,h,_=>by omega
 | k+1,h,hx=>by
   unfold Zht;rcases Nat.lt_or_ge i k with h'|h'
   . exact List.mem_append_left _ (Zpp h' hx)
   .
    obtain rfl:i=k:=by omega
    exact List.mem_append_right _ hx
open Go.RowKit
theorem Zrl {n:Nat}{f:Nat->Nat}(h1:∀ i,i<n->f i<n)(h2:∀ i j,i<n->j<n->f i=f j->i=j){j:Nat}(hj:j<n):∃ i,i<n/\f i=j:=by
 by_cases h:∃ i,i<n/\f i=j
 . exact h
 exfalso;have g0:∀ i,i<n->f i≠j:=fun i hi e=>h ⟨i,hi,e⟩
 have g1:(j::(List.range n).map f).Nodup:=by
  refine List.nodup_cons.2 ⟨?_,?_⟩
  . intro hm;obtain⟨i,hi,e⟩:=List.mem_map.1 hm;exact g0 i (List.mem_range.1 hi) e
  . refine List.pairwise_map.2 (List.nodup_range.imp_of_mem ?_);intro a b ha hb g2 e;exact g2 (h2 a b (List.mem_range.1 ha) (List.mem_range.1 hb) e)
 have:=Zis n _ g1 (fun x hx=>by
  rcases List.mem_cons.1 hx with rfl|hx
  . exact hj
  . obtain⟨i,hi,rfl⟩:=List.mem_map.1 hx;exact h1 i (List.mem_range.1 hi))
 simp at this;omega
theorem Zu8 {zs:List Int}{v:Int}{p:Nat}(h:at0 zs p=v)(hu:∀ i,i<zs.length->at0 zs i=v->i=p):∀ k,k<=zs.length->cntP zs v k=if p<k then 1 else 0
 | 0,_=>by simp[cntP]
 | k+1,hk=>by
   have ih:=Zu8 h hu k (by omega)
   by_cases e:at0 zs k=v
   . have:=hu k (by omega) e;subst this;rw[Zf3 (by omega) e,ih];simp
   .
    rw[Zqx (by omega) e,ih];have:p≠k:=fun e2=>e (by rw[<- e2];exact h)
    by_cases h3:p<k
    . rw[if_pos h3,if_pos (by omega)]
    . rw[if_neg h3,if_neg (by omega)]
theorem Zgu {zs:List Int}{v:Int}{i:Nat}:∀ {j:Nat},i<=j->j<=zs.length->cntP zs v i<=cntP zs v j
 | 0,h,_=>by
   obtain rfl:i=0:=by omega
   exact Nat.le_refl _
 | j+1,h,hj=>by
   rcases Nat.lt_or_ge i (j+1) with h'|h'
   .
    have:=Zgu (zs:=zs) (v:=v) (show i<=j by omega) (by omega)
    by_cases e:at0 zs j=v
    . rw[Zf3 (by omega) e];omega
    . rw[Zqx (by omega) e];omega
   .
    obtain rfl:i=j+1:=by omega
    exact Nat.le_refl _
theorem Zsb {zs:List Int}{n:Nat}(hl:zs.length=n)(h:∀ v:Nat,v<n->∃ p,p<n/\at0 zs p=(v:Nat))(hu:∀ i j,i<n->j<n->at0 zs i=at0 zs j->i=j):Zfm zs n=true:=by
 subst hl;unfold Zfm;rw[decide_eq_true_eq];refine⟨rfl,fun v hv=>?_⟩;obtain⟨p,hp,e⟩:=h v hv;rw[Zu8 e (fun i hi e2=>hu i p hi hp (e2.trans e.symm)) _ (Nat.le_refl _),if_pos hp]
structure Zxn (zs:List Int)(n:Nat):Prop where
 len:zs.length=n
 lt:∀ i,i<n->∃ v:Nat,v<n/\at0 zs i=(v:Nat)
 inj:∀ i j,i<n->j<n->at0 zs i=at0 zs j->i=j
theorem Znu {zs:List Int}{n:Nat}(h:Zfm zs n=true):Zxn zs n:=by
 unfold Zfm at h;rw[decide_eq_true_eq] at h;obtain⟨h1,h2⟩:=h;have g2:zs.length=n:=by omega
 subst g2;have hp:∀ v:Nat,v<zs.length->∃ p,p<zs.length/\at0 zs p=(v:Nat):=by
  intro v hv;have e:=h2 v hv;unfold cntP at e;rw[List.take_length] at e;have hm:0<(zs.filter (fun z=>decide (z=(v:Int)))).length:=by omega
  obtain⟨z,hz⟩:=List.length_pos_iff_exists_mem.1 hm;obtain⟨q1,q2⟩:=List.mem_filter.1 hz;obtain⟨i,hi,e2⟩:=List.getElem_of_mem q1;refine⟨i,hi,?_⟩;rw[Za8 hi,e2];simpa using q2
 have g0:∀ i,i<zs.length->∃ v,v<zs.length/\at0 zs i=(v:Nat):=by
  have hc:∃ f:Nat->Nat,∀ v,v<zs.length->f v<zs.length/\at0 zs (f v)=(v:Nat):=by
   refine⟨fun v=>if hv:v<zs.length then Classical.choose (hp v hv) else 0,fun v hv=>?_⟩;dsimp only;rw[dif_pos hv];exact Classical.choose_spec (hp v hv)
  obtain⟨f,hf⟩:=hc;intro i hi
  obtain⟨v,hv,e⟩:=Zrl (n:=zs.length) (f:=f) (fun v hv=>(hf v hv).1) (fun a b ha hb e=>by
   have e1:=(hf a ha).2;have e2:=(hf b hb).2;rw[e,e2] at e1;omega) hi
  exact⟨v,hv,by rw[<- e];exact(hf v hv).2⟩
 refine⟨rfl,g0,fun i j hi hj e=>?_⟩;obtain⟨v,hv,ei⟩:=g0 i hi;have ec:=h2 v hv;have ej:at0 zs j=(v:Nat):=by rw[<- e];exact ei
 rcases Nat.lt_trichotomy i j with g1|rfl|g1
 . have a1:=Zf3 hi ei;have a2:=Zf3 hj ej;have a3:=Zgu (zs:=zs) (v:=(v:Nat)) (show i+1<=j by omega) (by omega);have a4:=Zgu (zs:=zs) (v:=(v:Nat)) (show j+1<=zs.length by omega) (Nat.le_refl _);omega
 . rfl
 . have a1:=Zf3 hi ei;have a2:=Zf3 hj ej;have a3:=Zgu (zs:=zs) (v:=(v:Nat)) (show j+1<=i by omega) (by omega);have a4:=Zgu (zs:=zs) (v:=(v:Nat)) (show i+1<=zs.length by omega) (Nat.le_refl _);omega
theorem Zfj {l:List Nat}{i:Nat}(hi:i<l.length):at0 (l.map Int.ofNat) i=(l.getD i 0:Nat):=by
 rw[Za8 (by simpa using hi)];simp[List.getD,hi]
theorem Zaq.mem {d:Zag}{V:Nat->BF}(h:Zaq d V){v:Nat}(hv:v<d.vars.length):∃ i,i<d.vars.length/\d.vars.getD i 0=v:=⟨levN d v,h.dag.lt v hv,h.inv v hv⟩
theorem Zaq.inj {d:Zag}{V:Nat->BF}(h:Zaq d V){i j:Nat}(hi:i<d.vars.length)(hj:j<d.vars.length)(e:d.vars.getD i 0=d.vars.getD j 0):i=j:=by
 have a:=(h.vlt i hi).2;have b:=(h.vlt j hj).2;rw[e,b] at a;exact a.symm
theorem Zaq.permB {d:Zag}{V:Nat->BF}(h:Zaq d V):Go.Proofs.YtkbegdkpboklpaaGreat.Zfm (d.vars.map Int.ofNat) d.vars.length=true:=by
 refine Zsb (by simp) (fun v hv=>?_) (fun i j hi hj e=>?_)
 . obtain⟨i,hi,e⟩:=h.mem hv;exact⟨i,hi,by rw[Zfj hi,e]⟩
 . rw[Zfj hi,Zfj hj] at e;exact h.inj hi hj (by omega)
def exL (l:List Nat)(k:Nat):List Nat:=(l.set k (l.getD (k+1) 0)).set (k+1) (l.getD k 0)
theorem Zmi (l:List Nat)(k:Nat):(exL l k).length=l.length:=by simp[exL]
theorem Zrx {l:List Nat}{k:Nat}(h:k+1<l.length):(exL l k).getD k 0=l.getD (k+1) 0:=by
 unfold exL;simp[List.getD,List.getElem?_set,h,show k<l.length by omega]
theorem Zxx {l:List Nat}{k:Nat}(h:k+1<l.length):(exL l k).getD (k+1) 0=l.getD k 0:=by
 unfold exL;simp[List.getD,List.getElem?_set,h]
theorem Zzg {l:List Nat}{k i:Nat}(h1:i≠k)(h2:i≠k+1):(exL l k).getD i 0=l.getD i 0:=by
 unfold exL;simp only[List.getD,List.getElem?_set];rw[if_neg (fun e=>h2 e.symm),if_neg (fun e=>h1 e.symm)]
theorem Zql (d:Zag)(k:Nat):(Zep d k).vars=exL d.vars k:=rfl
open Go.RowKit
structure LawT (K:Law)(n:Nat)(Od:List Nat->Prop)(room:Nat)(w0:World)(mb:Nat)(fs:List (Int×BF))(nx:Int)(Wt:List Ev->Int->Prop)(hl hx:List (Int×BF))(W:World)(o:Own)(m:ManD)(V:Nat->BF)(vl vx:Value):Prop where
 sat:SatE K n Od room w0 mb fs nx W o m V
 b2:B2 fs
 st:Wt m.waits m.calls
 l:LawL W o w0.heap.size vl (hl.map Prod.fst)
 x:LawX W o w0.heap.size vx (hx.map fun p=>tabB n p.2)
section
variable {K:Law}{n:Nat}{Od:List Nat->Prop}{room:Nat}{w0:World}{mb:Nat}{fs:List (Int×BF)}{nx:Int}{Wt:List Ev->Int->Prop}{hl hx hs:List (Int×BF)}{W W' w:World}{o o':Own}{m m':ManD}{V V':Nat->BF}{vl vx v' v:Value}{p:Int×BF}
theorem LawT.below (h:LawT K n Od room w0 mb fs nx Wt hl hx W o m V vl vx)(hb:Below W.heap.size W W'):LawT K n Od room w0 mb fs nx Wt hl hx W' o m V vl vx :=
 ⟨h.sat.below hb,h.b2,h.st,h.l.chg (Zdb hb o),h.x.chg (Zdb hb o)⟩
theorem LawT.below0 (h:LawT K n Od room w0 mb fs nx Wt hl hx W o m V vl vx):Below w0.heap.size w0 W:=h.sat.chg.below0
theorem LawT.go {Od':List Nat->Prop}{fs':List (Int×BF)}{nx':Int}{Wt':List Ev->Int->Prop}(h:LawT K n Od room w0 mb fs nx Wt hl hx W o m V vl vx)(hs:SatE K n Od' room w0 mb fs' nx' W' o' m' V')(hb:B2 fs')(ht:Wt' m'.waits m'.calls)(hc:ChgX NoB o o' W W') :
 LawT K n Od' room w0 mb fs' nx' Wt' hl hx W' o' m' V' vl vx:=⟨hs,hb,ht,h.l.chg hc,h.x.chg hc⟩
theorem LawT.withOd {Od':List Nat->Prop}(h:LawT K n Od room w0 mb fs nx Wt hl hx W o m V vl vx)(hO:Od' m.d.vars):LawT K n Od' room w0 mb fs nx Wt hl hx W o m V vl vx:=⟨h.sat.withOd hO,h.b2,h.st,h.l,h.x⟩
theorem LawT.withSt {Wt':List Ev->Int->Prop}(h:LawT K n Od room w0 mb fs nx Wt hl hx W o m V vl vx)(hO:Wt' m.waits m.calls):LawT K n Od room w0 mb fs nx Wt' hl hx W o m V vl vx:=⟨h.sat,h.b2,hO,h.l,h.x⟩
theorem LawT.appL (h:LawT K n Od room w0 mb fs nx Wt hl hx W o m V vl vx)(hown:OwnC 3 W' w0.heap.size v' (Zbh (hl.map Prod.fst)++[.int .i64 p.1]))(e1:W'.os=W.os)(e2:W'.tape=W.tape)(e3:W'.output=W.output)(e4:W.heap.size<=W'.heap.size)(hk:Zda vl v' W W') :
 LawT K n Od room w0 mb fs nx Wt (hl++[p]) hx W' o m V v' vx:=by
 have hw:=Zst e1 e2 e3 e4 hk;refine⟨h.sat.other hw (fun k _ hk=>⟨(h.l.own.lt k hk).1,h.l.no k hk⟩),h.b2,h.st,?_,h.x.typ hw (by decide) (by decide) h.l.own.typed⟩;rw[List.map_append];exact h.l.app h.sat.lt hown hk
theorem LawT.appX {bs:List Bool}(h:LawT K n Od room w0 mb fs nx Wt hl hx W o m V vl vx)(hb:LawB W o w0.heap.size v bs)(hbs:bs=tabB n p.2){rs:List Value}(hrs:rs.length=hx.length)(hrow:OwnC 55 W w0.heap.size vx rs)(hall:∀ i v,rs[i]?=some v->LawB W o w0.heap.size v ((hx.map fun p=>tabB n p.2).getD i []))
 (hown:OwnC 55 W' w0.heap.size v' (rs++[v])) (e1:W'.os=W.os) (e2:W'.tape=W.tape) (e3:W'.output=W.output) (e4:W.heap.size<=W'.heap.size) (hk:Zda vx v' W W'):LawT K n Od room w0 mb fs nx Wt hl (hx++[p]) W' o m V vl v':=by
 have hw:=Zst e1 e2 e3 e4 hk;refine⟨h.sat.other hw (fun k _ hk=>⟨(hrow.lt k hk).1,h.x.no k hk⟩),h.b2,h.st,h.l.typ hw (by decide) hrow.typed,?_⟩;rw[List.map_append];have:=h.x.app h.sat.lt (by simp[hrs]) hall hw hrow.typed hb hown hk;rw[hbs] at this;exact this
end
open Go.RowKit
end Go.Proofs.YtkbegdkpboklpaaGreat

namespace Go.Proofs.YtkbegdkpboklpaaGreat
open Go.Proofs.Tryz
open Go.RowKit
open Go.RowKit
open Go.RowKit
end Go.Proofs.YtkbegdkpboklpaaGreat

namespace Go.Proofs.YtkbegdkpboklpaaGreat
open Go.Proofs.Tryz
open Go.RowKit
theorem Zi7 (W:World)(zs:List Int)(hl:zs.length<=1000000):Za4 (W.alloc (.cells (Zbh zs).toArray 3)) (some ⟨W.heap.size,0,none⟩) zs :=
 ⟨by omega,fun k hk=>⟨W.heap.size,0,rfl,by
  rw[Nat.zero_add,cell_of_row _ _ k _ _ _ (heap_alloc_new _ _)];simp[Zbh,Za8 hk,hk]⟩⟩
section
variable {K:Law}{n:Nat}{Od:List Nat->Prop}{room:Nat}{w0 w w':World}{mb:Nat}{fs:List (Int×BF)}{nx:Int}{o o':Own}{m m':ManD}{V V':Nat->BF}
def Goes (K:Law)(n:Nat)(Od:List Nat->Prop)(room:Nat)(w0:World)(mb:Nat)(fs:List (Int×BF))(nx:Int)(Wt:List Ev->Int->Nat->Prop)(o:Own)(w w':World):Prop :=
 ∃ o' m' V',ChgX NoB o o' w w'/\Wt m'.waits m'.calls m'.d.pool.many/\SatE K n Od room w0 mb fs nx w' o' m' V'
def NoW (M:Nat)(ws:List Ev)(_:Int)(k:Nat):Prop:=ws=[]/\k<=M
theorem Goes.more {M M':Nat}(h:Goes K n Od room w0 mb fs nx (NoW M) o w w')(hm:M<=M'):Goes K n Od room w0 mb fs nx (NoW M') o w w':=by
 obtain⟨o',m',V',h1,h2,h3⟩:=h;exact⟨o',m',V',h1,⟨h2.1,Nat.le_trans h2.2 hm⟩,h3⟩
theorem Goes.below {Wt:List Ev->Int->Nat->Prop}{w'':World}(h:Goes K n Od room w0 mb fs nx Wt o w w')(hb:Below w'.heap.size w' w''):Goes K n Od room w0 mb fs nx Wt o w w'':=by
 obtain⟨o',m',V',h1,h2,h3⟩:=h;exact⟨o',m',V',h1.trans (Zdb hb o') (fun _ _ e=>e),h2,h3.below hb⟩
theorem Zvw (hK:Zec K){M:Nat}(h:Goes K n Od room w0 mb fs nx (NoW M) o w w')(hn:nx<549755813888)(hr:M+(2^n-1)<=room){kf kg kh:Int}{F G H:BF}(hf:(kf,F)∈fs)(hg:(kg,G)∈fs)(hh:(kh,H)∈fs) :
 Calls prog 83 #[.pointer (some ⟨mb,0,none⟩),.int .i64 kf,.int .i64 kg,.int .i64 kh] w' fun x w''=>x=.returned (.tuple #[.int .i64 nx,.int .i64 0])/\Goes K n Od room w0 mb (fs++[(nx,Zfl F G H)]) (nx+1) (NoW (M+(2^n-1))) o w w'':=by
 obtain⟨o',m',V',h1,h2,h3⟩:=h;refine(Ztr hK h3 [] (by rw[h2.1];exact List.suffix_refl _) (some M) (fun _ e=>by cases e;exact⟨rfl,hr⟩) (fun _ e=>by cases e;exact h2.2) (by simp) (by omega) hf hg hh).mono ?_;rintro x w'' hp;obtain⟨o2,m2,V2,q1,q2,q3,q4⟩:=Zms hp;exact⟨q3,o2,m2,V2,h1.trans q1 (fun _ _ e=>e),q2,q4⟩
theorem Ybu (hK:Zec K){M:Nat}(h:Goes K n Od room w0 mb fs nx (NoW M) o w w')(hn:nx<549755813888)(hr:M+1<=room){v:Nat}(hv:v<n) :
 Calls prog 81 #[.pointer (some ⟨mb,0,none⟩),.int .i64 v] w' fun x w''=>x=.returned (.tuple #[.int .i64 nx,.int .i64 0])/\Goes K n Od room w0 mb (fs++[(nx,varF v)]) (nx+1) (NoW (M+1)) o w w'':=by
 obtain⟨o',m',V',h1,h2,h3⟩:=h;refine(Ztu hK h3 [] (by rw[h2.1];exact List.suffix_refl _) (some M) (fun _ e=>by cases e;exact⟨rfl,hr⟩) (fun _ e=>by cases e;exact h2.2) (by simp) (by omega) v hv).mono ?_;rintro x w'' hp;obtain⟨o2,m2,V2,q1,q2,q3,q4⟩:=Zms hp;exact⟨q3,o2,m2,V2,h1.trans q1 (fun _ _ e=>e),q2,q4⟩
theorem Zzk (hK:Zec K){Wt:List Ev->Int->Nat->Prop}(h:Goes K n Od room w0 mb fs nx Wt o w w')(hn:nx<549755813888){k:Int}{F:BF}(hf:(k,F)∈fs) :
 Calls prog 45 #[.pointer (some ⟨mb,0,none⟩),.int .i64 k] w' fun x w''=>x=.returned (.tuple #[.int .i64 nx,.int .i64 0])/\Goes K n Od room w0 mb (fs++[(nx,notF F)]) (nx+1) Wt o w w'':=by
 obtain⟨o',m',V',h1,h2,h3⟩:=h;refine(Zts hK h3 hn hf).mono ?_;rintro x w'' ⟨rfl,o2,m2,q⟩;exact⟨rfl,o2,m2,V',h1.trans (ChgX.of_chg q.chg NoB) (fun _ _ e=>e),by rw[q.waits,q.calls,q.many];exact h2,q.sat⟩
theorem Zm6 (hK:Zec K){Wt:List Ev->Int->Nat->Prop}(h:Goes K n Od room w0 mb fs nx Wt o w w')(hn:nx<549755813888){k:Int}{F:BF}(hf:(k,F)∈fs) :
 Calls prog 88 #[.pointer (some ⟨mb,0,none⟩),.int .i64 k] w' fun x w''=>x=.returned (.tuple #[.int .i64 nx,.int .i64 0])/\Goes K n Od room w0 mb (fs++[(nx,F)]) (nx+1) Wt o w w'':=by
 obtain⟨o',m',V',h1,h2,h3⟩:=h;refine(Zq9 hK h3 hn hf).mono ?_;rintro x w'' ⟨rfl,o2,m2,q⟩;exact⟨rfl,o2,m2,V',h1.trans (ChgX.of_chg q.chg NoB) (fun _ _ e=>e),by rw[q.waits,q.calls,q.many];exact h2,q.sat⟩
theorem Zm8 (hK:Zec K){Wt:List Ev->Int->Nat->Prop}{hs r:List (Int×BF)}(h:Goes K n Od room w0 mb (fs++(hs++r)) nx Wt o w w')(hb:B2 fs)(hn:nx<549755813888)(hl:hs.length<=1000){T:World}(hT:T=w'.alloc (.cells (Zbh (hs.map Prod.fst)).toArray 3)) :
 Calls prog 87 #[.pointer (some ⟨mb,0,none⟩),.slice (some ⟨w'.heap.size,0,none⟩) hs.length hs.length] T fun x w''=>x=.returned (.int .i64 0)/\Goes K n Od room w0 mb (fs++r) nx Wt o w w'':=by
 obtain⟨o',m',V',h1,h2,h3⟩:=h;subst hT;have g0:=Zad w' (.cells (Zbh (hs.map Prod.fst)).toArray 3);refine(Zrb hK (h3.below g0) hb hn (Zi7 w' (hs.map Prod.fst) (by simp;omega)) (fun x hx=>by cases hx;exact h3.lt.none (Nat.le_refl _))).mono ?_;rintro x w'' ⟨rfl,o2,m2,q⟩;exact⟨rfl,o2,m2,V',(h1.trans (Zdb g0 o') (fun _ _ e=>e)).trans (ChgX.of_chg q.chg NoB) (fun _ _ e=>e),by rw[q.waits,q.calls,q.many];exact h2,q.sat⟩
theorem Zr4 (hK:Zec K){a b:Int}{F G:BF}{M:Nat}(h:Goes K n Od room w0 mb (fs++[(a,F),(b,G)]) nx (NoW M) o w w')(hb:B2 fs)(hn:nx+2<549755813888)(hr:M+(2^n-1)<=room){op:Int}(h5:5<=op)(h9:op<=9) :
 Calls prog 106 #[.pointer (some ⟨mb,0,none⟩),.int .i64 op,.int .i64 a,.int .i64 b] w' fun x w''=>∃ k:Int,x=.returned (.tuple #[.int .i64 k,.bool true])/\k<=nx+1/\Goes K n Od room w0 mb (fs++[(k,Zpf op F G)]) (k+1) (NoW (M+(2^n-1))) o w w'':=by
 obtain⟨M',ga⟩:∃ M',M'=M+(2^n-1):=⟨_,rfl⟩;have g5:Hid (∀ c d e A B C,(c,A)∈fs++[(a,F),(b,G)]->(d,B)∈fs++[(a,F),(b,G)]->(e,C)∈fs++[(a,F),(b,G)]->Calls prog 83 #[.pointer (some ⟨mb,0,none⟩),.int .i64 c,.int .i64 d,.int .i64 e] w' fun x w''=>x=.returned (.tuple #[.int .i64 nx,.int .i64 0])/\Goes K n Od room w0 mb (fs++[(a,F),(b,G)]++[(nx,Zfl A B C)]) (nx+1) (NoW (M+(2^n-1))) o w w'') :=
  Hd fun c d e A B C h1 h2 h3=>Zvw hK h (by omega) hr h1 h2 h3
 have g6:=Hd (Zzk hK h (by omega) (k:=b) (F:=G) (by simp))
 have g0:Hid (∀ W,Goes K n Od room w0 mb (fs++[(a,F),(b,G)]++[(nx,notF G)]) (nx+1) (NoW M) o w W->∀ c d e A B C,(c,A)∈fs++[(a,F),(b,G)]++[(nx,notF G)]->(d,B)∈fs++[(a,F),(b,G)]++[(nx,notF G)]->(e,C)∈fs++[(a,F),(b,G)]++[(nx,notF G)] ->
  Calls prog 83 #[.pointer (some ⟨mb,0,none⟩),.int .i64 c,.int .i64 d,.int .i64 e] W fun x w''=>x=.returned (.tuple #[.int .i64 (nx+1),.int .i64 0])/\Goes K n Od room w0 mb (fs++[(a,F),(b,G)]++[(nx,notF G)]++[(nx+1,Zfl A B C)]) (nx+1+1) (NoW (M+(2^n-1))) o w w'') :=
  Hd fun W hW c d e A B C h1 h2 h3=>Zvw hK hW (by omega) hr h1 h2 h3
 have g7:Hid (∀ W H T,Goes K n Od room w0 mb (fs++[(a,F),(b,G)]++[(nx,notF G)]++[(nx+1,H)]) (nx+1+1) (NoW M') o w W->T=W.alloc (.cells #[.int .i64 nx] 3)->Calls prog 87 #[.pointer (some ⟨mb,0,none⟩),.slice (some ⟨W.heap.size,0,none⟩) 1 1] T fun x w''=>x=.returned (.int .i64 0)/\Goes K n Od room w0 mb (fs++[(a,F),(b,G)]++[(nx+1,H)]) (nx+1+1) (NoW M') o w w'') :=
  Hd fun W H T hW hT=>Zm8 hK (hs:=[(nx,notF G)]) (r:=[(nx+1,H)]) (by rw[List.append_assoc] at hW;exact hW) (hb.app _) (by omega) (by simp) hT
 have g8:Hid (∀ W k H T,k+1<549755813888->Goes K n Od room w0 mb (fs++[(a,F),(b,G)]++[(k,H)]) (k+1) (NoW M') o w W->T=W.alloc (.cells #[.int .i64 a,.int .i64 b] 3)->Calls prog 87 #[.pointer (some ⟨mb,0,none⟩),.slice (some ⟨W.heap.size,0,none⟩) 2 2] T fun x w''=>x=.returned (.int .i64 0)/\Goes K n Od room w0 mb (fs++[(k,H)]) (k+1) (NoW M') o w w'') :=
  Hd fun W k H T hk hW hT=>Zm8 hK (hs:=[(a,F),(b,G)]) (r:=[(k,H)]) (by rw[List.append_assoc] at hW;exact hW) hb (by omega) (by simp) hT
 have m0:(0,fun _=>false)∈fs++[(a,F),(b,G)]:=List.mem_append_left _ hb.zero;have m1:(1,fun _=>true)∈fs++[(a,F),(b,G)]:=List.mem_append_left _ hb.one;have ma:(a,F)∈fs++[(a,F),(b,G)]:=by simp
 have mb':(b,G)∈fs++[(a,F),(b,G)]:=by simp
 have pa:(a,F)∈fs++[(a,F),(b,G)]++[(nx,notF G)]:=by simp
 have pb:(b,G)∈fs++[(a,F),(b,G)]++[(nx,notF G)]:=by simp
 have pn:(nx,notF G)∈fs++[(a,F),(b,G)]++[(nx,notF G)]:=by simp
 rw[<- ga] at g5 g0 ⊢;clear h hb hr hK ga;rcases(show op=5\/op=6\/op=7\/op=8\/op=9 by omega) with rfl|rfl|rfl|rfl|rfl
 .
  have HI:=Hd (g5.out a b 0 _ _ _ ma mb' m0);clear g5 g0 g6 g7
  go_enter func106,ntmps106
  go_wp2_with fail;refine HI.out.mono ?_;rintro x w1 ⟨rfl,g1⟩;have HD:=Hd (g8.out w1 nx _ _ (by omega) g1 rfl);clear g1 HI;go_wp2_with fail;refine HD.out.mono ?_;rintro x w2 ⟨rfl,g2⟩;have HG:=Hd g2;clear g2 HD;go_wp2_with fail
  go_ret2
  exact⟨nx,rfl,by omega,HG.out⟩
 .
  have HI:=Hd (g5.out a 1 b _ _ _ ma m1 mb');clear g5 g0 g6 g7
  go_enter func106,ntmps106
  go_wp2_with fail;refine HI.out.mono ?_;rintro x w1 ⟨rfl,g1⟩;have HD:=Hd (g8.out w1 nx _ _ (by omega) g1 rfl);clear g1 HI;go_wp2_with fail;refine HD.out.mono ?_;rintro x w2 ⟨rfl,g2⟩;have HG:=Hd g2;clear g2 HD;go_wp2_with fail
  go_ret2
  exact⟨nx,rfl,by omega,HG.out⟩
 .
  clear g5
  go_enter func106,ntmps106
  go_wp2_with fail;refine g6.out.mono ?_;rintro x w1 ⟨rfl,g1⟩;have HI:=Hd (g0.out w1 g1 a nx b _ _ _ pa pn pb);clear g1 g6 g0;go_wp2_with fail;refine HI.out.mono ?_;rintro x w2 ⟨rfl,g2⟩;have g9:=Hd (g7.out w2 _ _ g2 rfl);clear g2 HI g7;go_wp2_with fail;refine g9.out.mono ?_;rintro x w3 ⟨rfl,g3⟩;have HD:=Hd (g8.out w3 (nx+1) _ _ (by omega) g3 rfl);clear g3 g9;go_wp2_with fail;refine HD.out.mono ?_;rintro x w4 ⟨rfl,g4⟩;have HG:=Hd g4;clear g4 HD;go_wp2_with fail
  go_ret2
  exact⟨nx+1,rfl,by omega,HG.out⟩
 .
  have HI:=Hd (g5.out a b 1 _ _ _ ma mb' m1);clear g5 g0 g6 g7
  go_enter func106,ntmps106
  go_wp2_with fail;refine HI.out.mono ?_;rintro x w1 ⟨rfl,g1⟩;have HD:=Hd (g8.out w1 nx _ _ (by omega) g1 rfl);clear g1 HI;go_wp2_with fail;refine HD.out.mono ?_;rintro x w2 ⟨rfl,g2⟩;have HG:=Hd g2;clear g2 HD;go_wp2_with fail
  go_ret2
  exact⟨nx,rfl,by omega,HG.out⟩
 .
  clear g5
  go_enter func106,ntmps106
  go_wp2_with fail;refine g6.out.mono ?_;rintro x w1 ⟨rfl,g1⟩;have HI:=Hd (g0.out w1 g1 a b nx _ _ _ pa pb pn);clear g1 g6 g0;go_wp2_with fail;refine HI.out.mono ?_;rintro x w2 ⟨rfl,g2⟩;have g9:=Hd (g7.out w2 _ _ g2 rfl);clear g2 HI g7;go_wp2_with fail;refine g9.out.mono ?_;rintro x w3 ⟨rfl,g3⟩;have HD:=Hd (g8.out w3 (nx+1) _ _ (by omega) g3 rfl);clear g3 g9;go_wp2_with fail;refine HD.out.mono ?_;rintro x w4 ⟨rfl,g4⟩;have HG:=Hd g4;clear g4 HD;go_wp2_with fail
  go_ret2
  exact⟨nx+1,rfl,by omega,HG.out⟩
end
open Go.RowKit
theorem Zv0 {op:Int}(h:0<=(Ze3 op).1):1<=op/\op<=10/\(Ze3 op).2<=64:=by
 unfold Ze3 at h ⊢;split
 . rename_i h1;exact⟨by omega,by omega,by simp⟩
 .
  split
  . rename_i h1;exact⟨by omega,by omega,by simp⟩
  .
   split
   . rename_i h1;exact⟨by omega,by omega,by simp⟩
   .
    split
    . rename_i h1;exact⟨by omega,by omega,by simp⟩
    .
     split
     . rename_i h1;exact⟨by omega,by omega,by simp⟩
     . exfalso;revert h;simp_all
theorem Zmv (f:Nat->Bool)(i:Nat):(List.range (i+1)).map f=(List.range i).map f++[f i]:=by simp[List.range_succ]
theorem Zh2 (l:List Bool)(b:Bool):Zbv (l++[b])=Zbv l++[.bool b]:=by simp[Zbv]
theorem tmod2 (c:Nat):((c:Int).tmod 2 == 1)=decide (c%2=1):=by
 have e1:Int.tmod (c:Int) 2=((c%2:Nat):Int):=by rw[Int.tmod_eq_emod_of_nonneg (by omega)];rfl
 rw[e1]
 by_cases h:c%2=1
 . rw[h];rfl
 .
  have:((c%2:Nat):Int)≠1:=by omega
  rw[beq_eq_false_iff_ne.2 this,decide_eq_false h]
theorem Zre (a b:Nat):(((a:Nat):Int) == (b:Int))=decide (a=b):=by
 by_cases h:a=b
 . subst h;simp
 .
  have:(a:Int)≠b:=by omega
  rw[beq_eq_false_iff_ne.2 this,decide_eq_false h]
theorem Zlo (ls:List Bool)(al:Option Addr)(cl:Nat):∀ (e:ExT) (x:Value) (w:World),Zsp e->Zbe w e x->Zgn w al ls ->
 Calls prog 131 #[x,.slice al ls.length cl] w fun y w'=>y=.returned (.bool (fnT e (Zdc ls)))/\Below w.heap.size w w'
 | .nil,x,w,hv,h,_=>by unfold Zbe at h;exact h.elim
 | .mk op v n kid,x,w,hval,h,hls=>by
   unfold Zbe at h;obtain⟨a,c,rfl,h2,h3,h4,h5⟩:=h;obtain⟨v1,v2,v3,v4,v5,v6⟩:=hval;obtain⟨k1,k2,k3⟩:=Zv0 v1;have hn64:n<=64:=by omega
   have H5:=Hd h5;have H6:=Hd v6;have gq:=Hd hls;have gH:=hls.len;have HE:Hid (fnT (ExT.mk op v n kid) (Zdc ls)=if op=3 then Zdc ls v.toNat else opB op n fun i=>fnT (kid i) (Zdc ls)):=Hd rfl;have IH:Hid (∀ (i:Nat) (x:Value) (W:World),i<n->Zbe W (kid i) x->Zgn W al ls->Calls prog 131 #[x,.slice al ls.length cl] W fun y w'=>y=.returned (.bool (fnT (kid i) (Zdc ls)))/\Below W.heap.size W w') :=
    Hd fun i x W hi h1 h2=>Zlo ls al cl (kid i) x W (H6.out i hi) h1 h2
   obtain⟨B,hB⟩:∃ B,B=fnT (ExT.mk op v n kid) (Zdc ls):=⟨_,rfl⟩;obtain⟨f,hf⟩:∃ f:Nat->Bool,f=fun i=>fnT (kid i) (Zdc ls):=⟨_,rfl⟩
   have gG:Hid (∀ i,fnT (kid i) (Zdc ls)=f i):=Hd fun i=>by rw[hf]
   rw[<- hB] at HE ⊢;rw[<- hf] at HE;have gB:op=8\/op=9->n=2:=by rintro(rfl|rfl)<;>(simp[Ze3] at v4 v5;omega)
   have gA:op=10->n=3:=by rintro rfl;simp[Ze3] at v4 v5;omega
   have gI:op=4->n=1:=by rintro rfl;simp[Ze3] at v4 v5;omega
   obtain⟨w1,ga⟩:∃ w1,w1=w.alloc (.cells #[.int .i64 op,.int .i64 v,.slice a n c] 81):=⟨_,rfl⟩;have HW1:Hid (_=w1):=Hd ga.symm;have g5:Hid (Below w.heap.size w w1):=by rw[ga];exact Hd (Zad _ _)
   have g6:w1.heap[w.heap.size]?=some (.cells #[.int .i64 op,.int .i64 v,.slice a n c] 81 (0,0)):=by rw[ga];exact heap_alloc_new _ _
   have d0:w1.cell? ⟨w.heap.size,0,none⟩=some (.int .i64 op):=by rw[cell_of_row _ _ 0 _ _ _ g6];rfl
   have d1:w1.cell? ⟨w.heap.size,1,none⟩=some (.int .i64 v):=by rw[cell_of_row _ _ 1 _ _ _ g6];rfl
   have d2:w1.cell? ⟨w.heap.size,2,none⟩=some (.slice a n c):=by rw[cell_of_row _ _ 2 _ _ _ g6];rfl
   unfold okI at h2 h3;obtain⟨w2,gc⟩:∃ w2,w2=w1.alloc (.cells #[] 4):=⟨_,rfl⟩;have gD:Hid (_=w2):=Hd gc.symm;have HB2:Hid (Below w1.heap.size w1 w2):=by rw[gc];exact Hd (Zad _ _)
   have gg:Hid (OwnB w2 w1.heap.size (.slice (some ⟨w1.heap.size,0,none⟩) 0 0) []):=by rw[gc];exact Hd (Zen _ _ _ (Nat.le_refl _))
   have hs1:w1.heap.size=w.heap.size+1:=by rw[ga];simp
   rw[hs1] at gg;clear h5 ga gc g6 hf hB v1 v4 v5 v6 hls
   go_enter func131,ntmps131
   go_upto_region 1 with fail;rw[HW1.out];go_upto_region 3 with fail;rw[gD.out];have gy:w1.heap.size<=w2.heap.size:=HB2.out.size;have d0':=(HB2.out.cell (p:=⟨w.heap.size,0,none⟩) (Zaa d0)).trans d0;have d1':=(HB2.out.cell (p:=⟨w.heap.size,1,none⟩) (Zaa d1)).trans d1;have d2':=(HB2.out.cell (p:=⟨w.heap.size,2,none⟩) (Zaa d2)).trans d2;go_wp2_with fail
   go_loopw [5,6,7,8] (fun s5 s6 s7 s8 wr=>∃ i k:Nat,i<=n/\k<=i/\s5=.int .i64 k/\s7=.int .i64 i/\Hid (k=cntT i f)/\Below w1.heap.size w1 wr/\OwnB wr w1.heap.size s6 ((List.range i).map f)/\w1.heap.size<=wr.heap.size) (fun _ _ s7 _ _=>n-(intOf s7).toNat)
   case atStart=>exact⟨0,0,Nat.zero_le _,Nat.le_refl _,rfl,rfl,Hd rfl,HB2.out,by rw[hs1];exact gg.out,gy⟩
   case round =>
    obtain⟨i,k,hi,gJ,rfl,rfl,HK,g2,g0,gx⟩:=hrel;have e0:=(g2.cell (p:=⟨w.heap.size,0,none⟩) (Zaa d0)).trans d0;have e1:=(g2.cell (p:=⟨w.heap.size,1,none⟩) (Zaa d1)).trans d1;have e2:=(g2.cell (p:=⟨w.heap.size,2,none⟩) (Zaa d2)).trans d2;have g3:=Hd g2;have gE:=Hd g0;clear g2 d0' d1' d2'
    by_cases gz:i<n
    .
     clear g0;obtain⟨b,off,x0,x1,x2,rfl,c0,c1,c2,hx⟩:=H5.out i gz;have g4:=g5.out.trans (g3.out.mono g5.out.size);have q0:=(g4.cell (p:=⟨b,off+i*3,none⟩) (Zaa c0)).trans c0;have q1:=(g4.cell (p:=⟨b,off+i*3+1,none⟩) (Zaa c1)).trans c1;have q2:=(g4.cell (p:=⟨b,off+i*3+2,none⟩) (Zaa c2)).trans c2;have HX:=Hd (hx.below g4);have gF:=Hd (gq.out.below g4);have gC:(i:Int)<n:=by omega
     have gt:Hid (∀ y,f i=y->k+(if y then 1 else 0)=cntT (i+1) f):=Hd fun y hy=>by rw[<- hy,HK.out];rfl
     clear c0 c1 c2 hx g4;go_wp2_with fail;refine(IH.out i _ _ (by omega) HX.out gF.out).mono ?_;rintro y w3 ⟨rfl,go⟩;have gj:=Hd go;clear go;go_upto_region 7 with fail;rw[gG.out];obtain⟨y,hy⟩:∃ y,f i=y:=⟨_,rfl⟩;rw[hy];have gr:=Hd (gt.out y hy);have gi:=Hd (gE.out.below gj.out);have gf:w1.heap.size<=w3.heap.size:=Nat.le_trans gx gj.out.size;have gk:=Hd (g3.out.trans (gj.out.mono g3.out.size));have gp:Hid (Zbv ((List.range (i+1)).map f)=Zbv ((List.range i).map f)++[.bool y]):=Hd (by rw[Zmv,Zh2,hy]);clear gt hy q0 q1 q2 e0 e1 e2;go_upto_region 8 with (at_builtin;refine Zby Zhg _ rfl _ _ rfl w1.heap.size _ (Zbv ((List.range i).map f)) _ rfl rfl rfl rfl rfl (by exact gi.out) (by simp[Zbv];omega) gf ?_;intro v4 w4 gd q1 q2 q3 q4 gn)
     have gv:=Hd (Zfr gk.out gi.out q1 q2 q3 q4 gn gf);have gh:=Hd gd;have ge:w1.heap.size<=w4.heap.size:=by omega
     clear gd q1 q2 q3 q4 gn;cases y with
     | true =>
       go_wp2_with fail;go_roundw
       case rel=>exact⟨i+1,k+1,by omega,by omega,by go_num,by go_num,Hd gr.out,gv.out,by unfold OwnB;rw[gp.out];exact gh.out,ge⟩
       case measure=>simp[intOf];omega
     | false =>
       go_wp2_with fail;go_roundw
       case rel=>exact⟨i+1,k,by omega,by omega,by go_num,by go_num,Hd gr.out,gv.out,by unfold OwnB;rw[gp.out];exact gh.out,ge⟩
       case measure=>simp[intOf];omega
    .
     have he:i=n:=by omega
     subst he;have gC:¬ (i:Int)<i:=by omega
     have HF:Hid (∀ b:Bool,b=B->Ending.returned (.bool b)=.returned (.bool B)/\Below w.heap.size w wr):=Hd fun b hb=>⟨by rw[hb],g5.out.trans (g3.out.mono g5.out.size)⟩
     have g1:0<i->∃ g cap,u6=.slice (some ⟨g,0,none⟩) i cap/\∀ j,j<i->wr.cell? ⟨g,j,none⟩=some (.bool (f j)):=by
      intro hp;obtain⟨g,cap,e,_⟩:=g0.shape (by simp[Zbv];omega);have e':u6=.slice (some ⟨g,0,none⟩) i cap:=by rw[e];simp[Zbv]
      refine⟨g,cap,e',fun j hj=>?_⟩;rw[e'] at g0;have:=g0.cellB j (by simp;omega);rw[this];simp[List.getD,hj]
     clear g0;rcases(show op=1\/op=2\/op=3\/op=4\/op=5\/op=6\/op=7\/op=8\/op=9\/op=10 by omega) with rfl|rfl|rfl|rfl|rfl|rfl|rfl|rfl|rfl|rfl
     . go_wp2_with fail;go_ret;exact HF.out _ (by rw[HE.out];rfl)
     . go_wp2_with fail;go_ret;exact HF.out _ (by rw[HE.out];rfl)
     .
      obtain⟨v5,v6⟩:=v2 rfl;obtain⟨u,rfl⟩:∃ u:Nat,v=(u:Int):=⟨v.toNat,by omega⟩;have gu:Hid (B=Zdc ls u):=Hd (by rw[HE.out];rfl)
      by_cases hu:u<ls.length
      .
       obtain⟨bl,ol,rfl,cl0⟩:=(gq.out.below (g5.out.trans (g3.out.mono g5.out.size))).cells u hu;have gw:(u:Int)<ls.length:=by omega
       have g7:Hid (B=ls.getD u false):=gu;obtain⟨yy,gl⟩:∃ yy,yy=ls.getD u false:=⟨_,rfl⟩;rw[<- gl] at cl0 g7;clear gl;go_wp2_with fail;go_ret;exact HF.out _ g7.out.symm
      .
       have gw:¬ (u:Int)<ls.length:=by omega
       have g7:Hid (B=false):=Hd (by rw[gu.out];unfold Zdc;simp[List.getD,List.getElem?_eq_none (show ls.length<=u by omega)]);go_wp2_with fail;go_ret;exact HF.out _ g7.out.symm
     . have HV:Hid (((k:Int) == 0)=B):=Hd (by rw[HE.out,HK.out];exact Zre _ 0);go_wp2_with fail;go_ret;exact HF.out _ HV.out
     . have HV:Hid (((k:Int) == (i:Int))=B):=Hd (by rw[HE.out,HK.out];exact Zre _ i);go_wp2_with fail;go_ret;exact HF.out _ HV.out
     .
      have HV:Hid (decide (0<k)=B):=Hd (by
       rw[HE.out,HK.out];rfl)
      go_wp2_with fail;go_ret;exact HF.out _ HV.out
     . have HV:Hid (((k:Int).tmod 2 == 1)=B):=Hd (by rw[HE.out,HK.out];exact tmod2 _);go_wp2_with fail;go_ret;exact HF.out _ HV.out
     .
      have:=gB (.inl rfl);subst this;obtain⟨g,cap,rfl,hc⟩:=g1 (by omega);have c0:=hc 0 (by omega);have c1:=hc 1 (by omega);have HV:Hid ((!(f 0)||f 1)=B):=Hd (by rw[HE.out];rfl);obtain⟨y0,g9⟩:∃ y,y=f 0:=⟨_,rfl⟩;obtain⟨y1,g8⟩:∃ y,y=f 1:=⟨_,rfl⟩;rw[<- g9] at c0 HV;rw[<- g8] at c1 HV;clear g9 g8 hc g1;cases y0 with
      | true =>
        go_wp2_with fail;go_ret;exact HF.out _ HV.out
      | false =>
        go_wp2_with fail;go_ret;exact HF.out _ HV.out
     .
      have HV:Hid (((k:Int) != 1)=B):=Hd (by
       rw[HE.out,HK.out]
       show (!((cntT i f:Int) == ((1:Nat):Int)))=decide (cntT i f≠1)
       rw[Zre]
       by_cases h:cntT i f=1<;>simp[h])
      go_wp2_with fail;go_ret;exact HF.out _ HV.out
     .
      have:=gA rfl;subst this;obtain⟨g,cap,rfl,hc⟩:=g1 (by omega);have c0:=hc 0 (by omega);have c1:=hc 1 (by omega);have c2:=hc 2 (by omega);have HV:Hid (iteB (f 0) (f 1) (f 2)=B):=Hd (by rw[HE.out];rfl);obtain⟨y0,g9⟩:∃ y,y=f 0:=⟨_,rfl⟩;obtain⟨y1,g8⟩:∃ y,y=f 1:=⟨_,rfl⟩;obtain⟨y2,gm⟩:∃ y,y=f 2:=⟨_,rfl⟩;rw[<- g9] at c0 HV;rw[<- g8] at c1 HV;rw[<- gm] at c2 HV;clear g9 g8 gm hc g1;cases y0 with
      | true =>
        go_wp2_with fail;go_ret;exact HF.out _ HV.out
      | false =>
        go_wp2_with fail;go_ret;exact HF.out _ HV.out
open Go.RowKit
section
variable {P:Program}{ops:Array Oper}{S:World->Prop}{Q:Exit->Act->World->Prop}{last:Bool}
theorem Ztz {o:Oper}{r:List (Option Oper×Bool)}{a:Act}{w w':World}{v:Value}(hw:Region.wanted o (yielded ops a.tmps)=true)
 (he:(execOp a.eval o).run P w=.ok (.value v) w') (hS:S w') (h:Zcd P ops Q S last r (a.put o.dst v) w'):Zcd P ops Q S last ((some o,true)::r) a w:=by
 unfold Zcd;simp only[hw,if_true,Oper.wp,he,Oper.upon];exact⟨.inr hS,h⟩
theorem Zty {o:Oper}{r:List (Option Oper×Bool)}{a:Act}{w:World}{f:FuncId}{args:Array Value}{R:Value->World->Prop}(hw:Region.wanted o (yielded ops a.tmps)=true)
 (he:(execOp a.eval o).run P w=.ok (.enter f args) w) (hc:Calls P f args w fun e w'=>∃ v,e=.returned v/\S w'/\R v w')
 (h:∀ v w',S w'->R v w'->Zcd P ops Q S last r (a.put o.dst v) w'):Zcd P ops Q S last ((some o,true)::r) a w:=by
 unfold Zcd;simp only[hw,if_true,Oper.wp,he,Oper.upon];exact hc.mono fun e w' ⟨v,h1,h2,h3⟩=>by subst h1;exact⟨.inr h2,h v w' h2 h3⟩
end
theorem Zg1 (mb:Nat)(b:Bool)(w:World):Calls prog 90 #[.pointer (some ⟨mb,0,none⟩),.bool b] w fun x w'=>x=.returned (.int .i64 (if b then 1 else 0))/\w=w':=by
 cases b with
 | true =>
   go_enter func90,ntmps90
   go_wp2_with fail;go_ret;exact⟨rfl,rfl⟩
 | false =>
   go_enter func90,ntmps90
   go_wp2_with fail;go_ret;exact⟨rfl,rfl⟩
theorem Yar {α:Type}{l:List α}(h:l.length=2):∃ a b,l=[a,b]:=by
 match l,h with
 | [a,b],_=>exact⟨a,b,rfl⟩
theorem Zv4 {α:Type}{l:List α}(h:l.length=3):∃ a b c,l=[a,b,c]:=by
 match l,h with
 | [a,b,c],_=>exact⟨a,b,c,rfl⟩
theorem Zsk {f:Nat->Nat}(h:∀ i,1<=f i):∀ k,k<=sumN k f
 | 0=>Nat.zero_le _
 | k+1=>by
   have:=Zsk h k;have:=h k
   show k+1<=sumN k f+f k
   omega
section
variable {K:Law}{n:Nat}{Od:List Nat->Prop}{room:Nat}{w0 w w' w'':World}{mb:Nat}{fs fs':List (Int×BF)}{nx nx':Int}{o o':Own}{m m':ManD}{V V':Nat->BF}
theorem Goes.refl {M:Nat}(h:SatE K n Od room w0 mb fs nx w o m V)(hw:m.waits=[]/\m.d.pool.many<=M):Goes K n Od room w0 mb fs nx (NoW M) o w w:=⟨o,m,V,ChgX.of_below (Below.refl _ _) o NoB,hw,h⟩
theorem Goes.after {Wt:List Ev->Int->Nat->Prop}(hc:ChgX NoB o o' w w')(g:Goes K n Od room w0 mb fs nx Wt o' w' w''):Goes K n Od room w0 mb fs nx Wt o w w'':=by
 obtain⟨o2,m2,V2,h1,h2,h3⟩:=g;exact⟨o2,m2,V2,hc.trans h1 (fun _ _ e=>e),h2,h3⟩
theorem Goes.cell {Wt:List Ev->Int->Nat->Prop}(g:Goes K n Od room w0 mb fs nx Wt o w w'){p:Addr}{v:Value}(hc:w.cell? p=some v)(hb:o p.block=none):w'.cell? p=some v:=by
 obtain⟨o2,m2,V2,h1,h2,h3⟩:=g;exact h1.cell hc hb (fun e=>e)
theorem Goes.below0 {Wt:List Ev->Int->Nat->Prop}(g:Goes K n Od room w0 mb fs nx Wt o w w'):Below w0.heap.size w0 w':=by
 obtain⟨o2,m2,V2,h1,h2,h3⟩:=g;exact h3.chg.below0
structure BuiT (K:Law)(n:Nat)(Od:List Nat->Prop)(room:Nat)(w0:World)(mb:Nat)(fs:List (Int×BF))(nx:Int)(M:Nat)(o:Own)(w:World)(vl:Value)(ks:List Int)(W:World)(o':Own)(m':ManD)(V':Nat->BF):Prop where
 sat:SatE K n Od room w0 mb fs nx W o' m' V'
 waits:m'.waits=[]/\m'.d.pool.many<=M
 chg:ChgX NoB o o' w W
 l:LawL W o' w.heap.size vl ks
def BuiS (K:Law)(n:Nat)(Od:List Nat->Prop)(room:Nat)(w0:World)(mb:Nat)(fs:List (Int×BF))(nx:Int)(M:Nat)(o:Own)(w:World)(vl:Value)(ks:List Int)(W:World):Prop:=∃ o' m' V',BuiT K n Od room w0 mb fs nx M o w vl ks W o' m' V'
section
variable {M:Nat}{vl vl':Value}{ks:List Int}{W W':World}
theorem BuiT.go (h:BuiT K n Od room w0 mb fs nx M o w vl ks W o' m' V'){M':Nat}(g:Goes K n Od room w0 mb fs' nx' (NoW M') o' W W'):BuiS K n Od room w0 mb fs' nx' M' o w vl ks W':=by
 obtain⟨o2,m2,V2,h1,h2,h3⟩:=g;exact⟨o2,m2,V2,h3,h2,h.chg.trans h1 (fun _ _ e=>e),h.l.chg h1⟩
theorem BuiT.refl (h:BuiT K n Od room w0 mb fs nx M o w vl ks W o' m' V'):Goes K n Od room w0 mb fs nx (NoW M) o' W W:=Goes.refl h.sat h.waits
theorem BuiS.below (h:BuiS K n Od room w0 mb fs nx M o w vl ks W)(hb:Below W.heap.size W W'):BuiS K n Od room w0 mb fs nx M o w vl ks W':=by
 obtain⟨o',m',V',h⟩:=h;exact h.go (h.refl.below hb)
theorem BuiS.goes (h:BuiS K n Od room w0 mb fs nx M o w vl ks W):Goes K n Od room w0 mb fs nx (NoW M) o w W:=by
 obtain⟨o',m',V',h⟩:=h;exact⟨o',m',V',h.chg,h.waits,h.sat⟩
theorem BuiS.app {k:Int}(h:BuiT K n Od room w0 mb fs nx M o w vl ks W o' m' V')(hown:OwnC 3 W' w.heap.size vl' (Zbh ks++[.int .i64 k]))(e1:W'.os=W.os)(e2:W'.tape=W.tape)(e3:W'.output=W.output)(e4:W.heap.size<=W'.heap.size)(hk:Zda vl vl' W W')(hw0:w0.heap.size<=w.heap.size) :
 BuiS K n Od room w0 mb fs nx M o w vl' (ks++[k]) W':=by
 have hw:=Zst e1 e2 e3 e4 hk;exact⟨o',m',V',h.sat.other hw (fun k _ hk=>⟨by have:=(h.l.own.lt k hk).1;omega,h.l.no k hk⟩),h.waits,h.chg.trans (ChgX.of_wr (C:=fun k=>w.heap.size<=k) hw o' (fun k _ hk=>(h.l.own.lt k hk).1)) (fun k hk e=>by omega),h.l.app h.sat.lt hown hk⟩
theorem BuiS.cells (h:BuiS K n Od room w0 mb fs nx M o w vl ks W)(hp:0<ks.length):∃ g c,vl=.slice (some ⟨g,0,none⟩) ks.length c/\∀ j,j<ks.length->W.cell? ⟨g,j,none⟩=some (.int .i64 (at0 ks j)):=by
 obtain⟨o',m',V',h⟩:=h;obtain⟨g,c,e,_⟩:=h.l.own.shape (by simpa [Zbh] using hp);have e':vl=.slice (some ⟨g,0,none⟩) ks.length c:=by rw[e];simp[Zbh]
 refine⟨g,c,e',fun j hj=>?_⟩;have ho:=h.l.own;rw[e'] at ho;rw[ho.cell j (by simpa [Zbh] using hj)];simp[Zbh,Za8 hj,hj]
theorem BuiS.cellsN (h:BuiS K n Od room w0 mb fs nx M o w vl ks W){i:Nat}(hl:ks.length=i)(hp:0<i):∃ g c,vl=.slice (some ⟨g,0,none⟩) i c/\∀ j,j<i->W.cell? ⟨g,j,none⟩=some (.int .i64 (at0 ks j)):=by
 subst hl;exact h.cells hp
end
def Zh4 (n s:Nat):Nat:=s*2^n-(2^n-1)
theorem Zij (n:Nat){s:Nat}(h:1<=s):Zh4 n s+(2^n-1)=s*2^n:=by
 have:=Nat.mul_le_mul_right (2^n) h;unfold Zh4;omega
def Ze7 (n:Nat)(kid:Nat->ExT)(i:Nat):Nat:=sumN i fun j=>Zh4 n (kid j).size
theorem Zop (n:Nat)(kid:Nat->ExT):∀ i,Ze7 n kid i+i*(2^n-1)=(sumN i fun i=>(kid i).size)*2^n
 | 0=>by simp[Ze7,sumN]
 | i+1=>by
   have h1:=Zop n kid i;have h2:=Zij n (kid i).size_pos
   show Ze7 n kid i+Zh4 n (kid i).size+(i+1)*(2^n-1)=((sumN i fun i=>(kid i).size)+(kid i).size)*2^n
   rw[Nat.add_mul,Nat.add_mul];omega
structure BCtx (K:Law)(n:Nat)(Od:List Nat->Prop)(room:Nat)(w0:World)(mb:Nat)(fs:List (Int×BF))(nx:Int)(M:Nat)(w w1:World)(o:Own)(m:ManD)(V:Nat->BF)(op v:Int)(nk:Nat)(kid:Nat->ExT)(a:Option Addr)(c:Nat)(E:ExT)(Q:Ending->World->Prop):Prop where
 HKK:Hid (Zec K)
 H5:Hid (∀ k,k<nk->∃ b off x0 x1 x2,a=some ⟨b,off,none⟩/\w0.cell? ⟨b,off+k*3,none⟩=some x0/\w0.cell? ⟨b,off+k*3+1,none⟩=some x1/\w0.cell? ⟨b,off+k*3+2,none⟩=some x2/\Zbe w0 (kid k) (.agg #[x0,x1,x2]))
 HKS:Hid (∀ i,i<nk->(sumN i fun i=>(kid i).size)+(kid i).size+1<=E.size)
 HSZ:Hid (E.size=1+sumN nk fun i=>(kid i).size)
 HPOS:Hid (∀ k,k<=sumN k fun i=>(kid i).size)
 IH:Hid (∀ (i:Nat) (x:Value) (fs':List (Int×BF)) (nx':Int) (W:World) (o':Own) (m':ManD) (V':Nat->BF) (M':Nat),i<nk->SatE K n Od room w0 mb fs' nx' W o' m' V'->m'.waits=[]/\m'.d.pool.many<=M'->B2 fs'->Zbe w0 (kid i) x->nx'+3*(kid i).size<549755813000->M'+(kid i).size*2^n<=room ->
  Calls prog 44 #[.pointer (some ⟨mb,0,none⟩),x] W fun y w'=>∃ k:Int,y=.returned (.tuple #[.int .i64 k,.bool true])/\k+3<=nx'+3*(kid i).size/\Goes K n Od room w0 mb (fs'++[(k,fnT (kid i))]) (k+1) (NoW (M'+Zh4 n (kid i).size)) o' W w')
 HW1:Hid (w.alloc (.cells #[.int .i64 op,.int .i64 v,.slice a nk c] 81)=w1)
 HG1:Hid (Goes K n Od room w0 mb fs nx (NoW M) o w1 w1)
 HSAT1:Hid (SatE K n Od room w0 mb fs nx w1 o m V)
 HWT:Hid (m.waits=[]/\m.d.pool.many<=M)
 HB2:Hid (B2 fs)
 HQ:Hid (∀ (k:Int) F W M',F=fnT E->k+3<=nx+3*E.size->M'<=M+Zh4 n E.size->Goes K n Od room w0 mb (fs++[(k,F)]) (k+1) (NoW M') o w1 W->Q (.returned (.tuple #[.int .i64 k,.bool true])) W)
 HMR:Hid (∀ i,i<nk->M+(sumN i fun i=>(kid i).size)*2^n+(kid i).size*2^n+2^n<=room)
 HCK:Hid (∀ i,Ze7 n kid i+i*(2^n-1)=(sumN i fun i=>(kid i).size)*2^n)
 HCI:Hid (∀ i,Zh4 n (kid i).size+(2^n-1)=(kid i).size*2^n)
 HEP:Hid (E.size*2^n=2^n+(sumN nk fun i=>(kid i).size)*2^n/\Zh4 n E.size+(2^n-1)=E.size*2^n)
 HME:Hid (M+E.size*2^n<=room)
 hn64:nk<=64
 hnx:nx+3*E.size<549755813000
 hE1:1<=E.size
 hs1:w1.heap.size=w.heap.size+1
 d0:w1.cell? ⟨w.heap.size,0,none⟩=some (.int .i64 op)
 d1:w1.cell? ⟨w.heap.size,1,none⟩=some (.int .i64 v)
 d2:w1.cell? ⟨w.heap.size,2,none⟩=some (.slice a nk c)
 on:o w.heap.size=none
 hw0:w0.heap.size<=w1.heap.size
 hp2:0<2^n
 h2 : -9223372036854775808<=op/\op<=9223372036854775807
 h3 : -9223372036854775808<=v/\v<=9223372036854775807
theorem Zsx {w1:World}{op v:Int}{nk:Nat}{kid:Nat->ExT}{a:Option Addr}{c:Nat}{E:ExT}{Q:Ending->World->Prop}{M:Nat}(hctx:BCtx K n Od room w0 mb fs nx M w w1 o m V op v nk kid a c E Q)(h1:op=1)(hF:fnT E=fun _=>true) :
 Calls prog 44 #[.pointer (some ⟨mb,0,none⟩),.agg #[.int .i64 op,.int .i64 v,.slice a nk c]] w Q:=by
 obtain⟨HKK,H5,HKS,HSZ,HPOS,IH,HW1,HG1,HSAT1,HWT,HB2,HQ,HMR,HCK,HCI,HEP,HME,hn64,hnx,hE1,hs1,d0,d1,d2,on,hw0,hp2,h2,h3⟩:=hctx;subst h1;have g2:=Hd (Zg1 mb true w1);have g1:=Hd (Zm6 HKK.out HG1.out (by omega) (k:=1) (F:=fun _=>true) HB2.out.one);have g0:Hid ((fun _=>true)=fnT E):=Hd hF.symm;have g3:Hid (M<=M+Zh4 n E.size):=Hd (Nat.le_add_right _ _);clear IH
 go_enter func44,ntmps44
 go_upto_region 1 with fail;rw[HW1.out];go_wp2_with fail;refine g2.out.mono ?_;rintro y w' ⟨rfl,rfl⟩;go_wp2_with fail;refine g1.out.mono ?_;rintro y w2 ⟨rfl,g⟩;have HF:=Hd (HQ.out nx _ w2 _ g0.out (by omega) g3.out g);clear g;go_wp2_with fail;exact HF.out
theorem Zqw {w1:World}{op v:Int}{nk:Nat}{kid:Nat->ExT}{a:Option Addr}{c:Nat}{E:ExT}{Q:Ending->World->Prop}{M:Nat}(hctx:BCtx K n Od room w0 mb fs nx M w w1 o m V op v nk kid a c E Q)(h1:op=2)(hF:fnT E=fun _=>false) :
 Calls prog 44 #[.pointer (some ⟨mb,0,none⟩),.agg #[.int .i64 op,.int .i64 v,.slice a nk c]] w Q:=by
 obtain⟨HKK,H5,HKS,HSZ,HPOS,IH,HW1,HG1,HSAT1,HWT,HB2,HQ,HMR,HCK,HCI,HEP,HME,hn64,hnx,hE1,hs1,d0,d1,d2,on,hw0,hp2,h2,h3⟩:=hctx;subst h1;have g2:=Hd (Zg1 mb false w1);have g1:=Hd (Zm6 HKK.out HG1.out (by omega) (k:=0) (F:=fun _=>false) HB2.out.zero);have g0:Hid ((fun _=>false)=fnT E):=Hd hF.symm;have g3:Hid (M<=M+Zh4 n E.size):=Hd (Nat.le_add_right _ _);clear IH
 go_enter func44,ntmps44
 go_upto_region 1 with fail;rw[HW1.out];go_wp2_with fail;refine g2.out.mono ?_;rintro y w' ⟨rfl,rfl⟩;go_wp2_with fail;refine g1.out.mono ?_;rintro y w2 ⟨rfl,g⟩;have HF:=Hd (HQ.out nx _ w2 _ g0.out (by omega) g3.out g);clear g;go_wp2_with fail;exact HF.out
theorem Zu5 {w1:World}{op v:Int}{nk:Nat}{kid:Nat->ExT}{a:Option Addr}{c:Nat}{E:ExT}{Q:Ending->World->Prop}{M:Nat}(hctx:BCtx K n Od room w0 mb fs nx M w w1 o m V op v nk kid a c E Q){u:Nat}(hu:u<n)(h1:op=3)(hvu:v=u)(hF:fnT E=varF u) :
 Calls prog 44 #[.pointer (some ⟨mb,0,none⟩),.agg #[.int .i64 op,.int .i64 v,.slice a nk c]] w Q:=by
 obtain⟨HKK,H5,HKS,HSZ,HPOS,IH,HW1,HG1,HSAT1,HWT,HB2,HQ,HMR,HCK,HCI,HEP,HME,hn64,hnx,hE1,hs1,d0,d1,d2,on,hw0,hp2,h2,h3⟩:=hctx;subst hvu;subst h1;have g1:=Hd (Ybu HKK.out HG1.out (by omega) (by have:=HEP.out;have:=HME.out;omega) hu);have g0:Hid (varF u=fnT E):=Hd hF.symm;have g2:Hid (M+1<=M+Zh4 n E.size):=Hd (by have:=HEP.out;omega);clear IH
 go_enter func44,ntmps44
 go_upto_region 1 with fail;rw[HW1.out];go_wp2_with fail;refine g1.out.mono ?_;rintro y w2 ⟨rfl,g⟩;have HF:=Hd (HQ.out nx _ w2 _ g0.out (by omega) g2.out g);clear g;go_wp2_with fail;exact HF.out
end
open Go.RowKit
section
variable {K:Law}{n:Nat}{Od:List Nat->Prop}{room:Nat}{w0 w w' w'':World}{mb:Nat}{fs fs':List (Int×BF)}{nx nx':Int}{o o':Own}{m m':ManD}{V V':Nat->BF}
theorem Zu1 {w1:World}{op v:Int}{nk:Nat}{kid:Nat->ExT}{a:Option Addr}{c:Nat}{E:ExT}{Q:Ending->World->Prop}{M:Nat}(hctx:BCtx K n Od room w0 mb fs nx M w w1 o m V op v nk kid a c E Q)(h1:op=5\/op=6\/op=7)(hF:fnT E=accT op kid nk) :
 Calls prog 44 #[.pointer (some ⟨mb,0,none⟩),.agg #[.int .i64 op,.int .i64 v,.slice a nk c]] w Q:=by
 obtain⟨HKK,H5,HKS,HSZ,HPOS,IH,HW1,HG1,HSAT1,HWT,HB2,HQ,HMR,HCK,HCI,HEP,HME,hn64,hnx,hE1,hs1,d0,d1,d2,on,hw0,hp2,h2,h3⟩:=hctx;have ga:5<=op/\op<=9:=by omega
 have gc:Hid (accT op kid nk=fnT E):=Hd hF.symm;have gd:=Hd (fun b=>Zg1 mb b w1)
 have g8:Hid (∀ z:Int,z=(if op=5 then 1 else 0)->Calls prog 88 #[.pointer (some ⟨mb,0,none⟩),.int .i64 z] w1 fun x w''=>x=.returned (.tuple #[.int .i64 nx,.int .i64 0])/\Goes K n Od room w0 mb (fs++[(nx,accT op kid 0)]) (nx+1) (NoW M) o w1 w''):=Hd (by
  rintro z rfl
  by_cases e:op=5
  . rw[if_pos e,show accT op kid 0=fun _=>true by unfold accT;simp[e]];exact Zm6 HKK.out HG1.out (by omega) HB2.out.one
  . rw[if_neg e,show accT op kid 0=fun _=>false by unfold accT;simp[e]];exact Zm6 HKK.out HG1.out (by omega) HB2.out.zero)
 obtain⟨A,hA⟩:∃ A:Nat->BF,A=accT op kid:=⟨_,rfl⟩;have gj:Hid (∀ i,Zpf op (A i) (fnT (kid i))=A (i+1)):=Hd fun i=>by rw[hA];rfl
 rw[<- hA] at g8 gc;clear hA;rcases h1 with h1|h1|h1
 all_goals
  subst h1
  go_enter func44,ntmps44
  go_upto_region 1 with fail;rw[HW1.out];go_wp2_with fail;refine(gd.out _).mono ?_;rintro y w' ⟨rfl,rfl⟩;go_wp2_with fail;refine(g8.out _ (by rfl)).mono ?_;rintro y w2 ⟨rfl,g⟩;have gi:=Hd g;clear g gd g8;go_wp2_with fail
  go_loopw [10,12,13,14] (fun s10 s12 s13 s14 wr=>∃ (i:Nat) (k:Int),i<=nk/\s10=.int .i64 k/\s12=.bool true/\s13=.int .i64 i/\Hid (k+3<=nx+3*((1+sumN i fun i=>(kid i).size:Nat):Int))/\Hid (Goes K n Od room w0 mb (fs++[(k,A i)]) (k+1) (NoW (M+(sumN i fun i=>(kid i).size)*2^n)) o w1 wr)) (fun _ _ s13 _ _=>nk-(intOf s13).toNat)
  case atStart=>exact⟨0,nx,Nat.zero_le _,rfl,rfl,rfl,Hd (by show nx+3<=nx+3*((1+0:Nat):Int);omega),Hd (gi.out.more (Nat.le_add_right _ _))⟩
  case round =>
   obtain⟨i,k,hi,rfl,rfl,rfl,HN,HG⟩:=hrel;have e0:=HG.out.cell (p:=⟨w.heap.size,0,none⟩) d0 on;have e2:=HG.out.cell (p:=⟨w.heap.size,2,none⟩) d2 on
   by_cases g0:i<nk
   .
    obtain⟨b,off,x0,x1,x2,rfl,c0,c1,c2,hx⟩:=H5.out i g0;have g1:=HG.out.below0;have q0:=(g1.cell (p:=⟨b,off+i*3,none⟩) (Zaa c0)).trans c0;have q1:=(g1.cell (p:=⟨b,off+i*3+1,none⟩) (Zaa c1)).trans c1;have q2:=(g1.cell (p:=⟨b,off+i*3+2,none⟩) (Zaa c2)).trans c2;have gf:(i:Int)<nk:=by omega
    have gl:=HKS.out i g0;obtain⟨o1,m1,V1,g9,g5,g6⟩:=HG.out;have gk:=HN.out;have g2:=Hd (IH.out i _ (fs++[(k,A i)]) (k+1) _ o1 m1 V1 _ g0 g6 g5 (HB2.out.app _) hx (by omega) (by have:=HMR.out i g0;omega));have ge:=Hd g9;clear g1 c0 c1 c2 hx g6 g5 g9;go_wp2_with fail;refine g2.out.mono ?_;rintro y w3 ⟨k2,rfl,gn,g3⟩
    have g7:Hid (Goes K n Od room w0 mb (fs++[(k,A i),(k2,fnT (kid i))]) (k2+1) (NoW (M+(sumN i fun i=>(kid i).size)*2^n+Zh4 n (kid i).size)) o w1 w3):=Hd (by
     have:=g3.after ge.out;rw[List.append_assoc] at this;exact this)
    have f0:=g7.out.cell (p:=⟨w.heap.size,0,none⟩) d0 on;have HJ:=Hd (Zr4 HKK.out g7.out HB2.out (by omega) (by have:=HMR.out i g0;have:=HCI.out i;omega) ga.1 ga.2);clear g3 g2 ge q0 q1 q2 e0 e2;go_wp2_with fail;refine HJ.out.mono ?_;rintro y w4 ⟨k4,rfl,gm,g4⟩
    have gh:Hid (Goes K n Od room w0 mb (fs++[(k4,A (i+1))]) (k4+1) (NoW (M+(sumN (i+1) fun i=>(kid i).size)*2^n)) o w1 w4):=Hd (by
     rw[<- gj.out i];refine g4.more ?_
     show _<=M+((sumN i fun i=>(kid i).size)+(kid i).size)*2^n
     rw[Nat.add_mul];have:=HCI.out i;omega)
    have gg:Hid (k4+3<=nx+3*((1+sumN (i+1) fun i=>(kid i).size:Nat):Int)):=Hd (by
     show k4+3<=nx+3*((1+((sumN i fun i=>(kid i).size)+(kid i).size):Nat):Int)
     omega)
    clear g4 HJ f0 g7;go_wp2_with fail;go_roundw
    case rel=>exact⟨i+1,k4,by omega,rfl,rfl,by go_num,gg,gh⟩
    case measure=>simp[intOf];omega
   .
    obtain rfl:i=nk:=by omega
    have gf:¬ (i:Int)<i:=by omega
    have HF:=Hd (HQ.out k _ _ _ gc.out (by have:=HN.out;have:=HSZ.out;omega) (by have:=HEP.out;omega) HG.out);go_wp2_with fail;exact HF.out
end
open Go.RowKit
section
variable {K:Law}{n:Nat}{Od:List Nat->Prop}{room:Nat}{w0 w w' w'':World}{mb:Nat}{fs fs':List (Int×BF)}{nx nx':Int}{o o':Own}{m m':ManD}{V V':Nat->BF}
theorem Zu3 {w1:World}{op v:Int}{nk:Nat}{kid:Nat->ExT}{a:Option Addr}{c:Nat}{E:ExT}{Q:Ending->World->Prop}{M:Nat}(hctx:BCtx K n Od room w0 mb fs nx M w w1 o m V op v nk kid a c E Q)(h1:op=4)(hnk:nk=1)(hF:fnT E=notF (fnT (kid 0))) :
 Calls prog 44 #[.pointer (some ⟨mb,0,none⟩),.agg #[.int .i64 op,.int .i64 v,.slice a nk c]] w Q:=by
 obtain⟨HKK,H5,HKS,HSZ,HPOS,IH,HW1,HG1,HSAT1,HWT,HB2,HQ,HMR,HCK,HCI,HEP,HME,hn64,hnx,hE1,hs1,d0,d1,d2,on,hw0,hp2,h2,h3⟩:=hctx;have g1:(op == 1)=false:=by simp;omega
 have g2:(op == 2)=false:=by simp;omega
 have g3:(op == 3)=false:=by simp;omega
 have g5:(op == 5)=false:=by simp;omega
 have g6:(op == 6)=false:=by simp;omega
 have g7:(op == 7)=false:=by simp;omega
 have g4:(op == 4)=true:=by simp;omega
 have gD:=Hd hnk;clear h1 hnk;obtain⟨w2,gf⟩:∃ w2,w2=w1.alloc (.cells #[] 3):=⟨_,rfl⟩;have gC:Hid (_=w2):=Hd gf.symm;have g9:Below w1.heap.size w1 w2:=by rw[gf];exact Zad _ _
 have gm:Hid (BuiS K n Od room w0 mb (fs++[]) nx (M+Ze7 n kid 0) o w1 (.slice (some ⟨w.heap.size+1,0,none⟩) 0 0) (([]:List (Int×BF)).map Prod.fst) w2):=Hd ⟨o,m,V,by rw[List.append_nil];exact HSAT1.out.below g9,HWT.out,Zdb g9 o,by rw[gf,<- hs1];exact Zen _ _ _ (Nat.le_refl _),fun k hk=>by cases hk;rw[<- hs1];exact HSAT1.out.lt.none (Nat.le_refl _)⟩;have gn:=Hd g9;clear gf g9
 go_enter func44,ntmps44
 go_upto_region 1 with fail;rw[HW1.out];go_upto_region 23 with fail;rw[gC.out];have e2:=(gn.out.cell (p:=⟨w.heap.size,2,none⟩) (Zaa d2)).trans d2;go_wp2_with fail
 go_loopw [15,106] (fun s15 s106 wr=>∃ (i:Nat) (hs:List (Int×BF)) (nxi:Int),i<=nk/\s106=.int .i64 i/\hs.length=i/\nxi+2*i<=nx+3*((sumN i fun i=>(kid i).size:Nat):Int)/\Hid (∀ j (hj:j<hs.length),hs[j].2=fnT (kid j))/\Hid (BuiS K n Od room w0 mb (fs++hs) nxi (M+Ze7 n kid i) o w1 s15 (hs.map Prod.fst) wr)) (fun _ s106 _=>nk-(intOf s106).toNat)
 case atStart=>exact⟨0,[],nx,Nat.zero_le _,rfl,rfl,by show nx+2*((0:Nat):Int)<=nx+3*((0:Nat):Int);omega,Hd (fun j hj=>by simp at hj),gm⟩
 case round =>
  clear gm gn e2
  rename World=>wy
  obtain⟨i,hs,nxi,hi,rfl,gA,gI,gt,g0⟩:=hrel
  by_cases gi:i<nk
  .
   obtain⟨b,off,x0,x1,x2,rfl,c0,c1,c2,hx⟩:=H5.out i gi;have gj:=g0.out.goes.below0;have q0:=(gj.cell (p:=⟨b,off+i*3,none⟩) (Zaa c0)).trans c0;have q1:=(gj.cell (p:=⟨b,off+i*3+1,none⟩) (Zaa c1)).trans c1;have q2:=(gj.cell (p:=⟨b,off+i*3+2,none⟩) (Zaa c2)).trans c2;obtain⟨zo,zv,za,zn,zc,rfl,rfl,rfl⟩:=hx.parts;have gz:(i:Int)<nk:=by omega
   have gK:=HKS.out i gi;obtain⟨wz,ge⟩:∃ wz,wz=wy.alloc (.cells #[.int .i64 zo,.int .i64 zv,.slice za zn zc] 81):=⟨_,rfl⟩;have gB:Hid (_=wz):=Hd ge.symm;have gr:Below wy.heap.size wy wz:=by rw[ge];exact Zad _ _
   have g8:wz.heap[wy.heap.size]?=some (.cells #[.int .i64 zo,.int .i64 zv,.slice za zn zc] 81 (0,0)):=by rw[ge];exact heap_alloc_new _ _
   have p0:wz.cell? ⟨wy.heap.size,0,none⟩=some (.int .i64 zo):=by rw[cell_of_row _ _ 0 _ _ _ g8];rfl
   have p1:wz.cell? ⟨wy.heap.size,1,none⟩=some (.int .i64 zv):=by rw[cell_of_row _ _ 1 _ _ _ g8];rfl
   have p2:wz.cell? ⟨wy.heap.size,2,none⟩=some (.slice za zn zc):=by rw[cell_of_row _ _ 2 _ _ _ g8];rfl
   obtain⟨o1,m1,V1,bt⟩:=g0.out.below gr;have gH:=HPOS.out i;have gk:=Hd (IH.out i _ (fs++hs) nxi wz o1 m1 V1 _ gi bt.sat bt.waits (HB2.out.app _) hx (by omega) (by have:=HMR.out i gi;have:=HCK.out i;omega));have gc:=Hd bt;clear gj c0 c1 c2 hx bt ge gr g8 g0;go_upto_region 26 with fail;rw[gB.out];clear q0 q1 q2;go_wp2_with fail;refine gk.out.mono ?_;rintro y w3 ⟨k2,rfl,gL,gg⟩;have gl:=Hd (gc.out.go (M':=M+Ze7 n kid (i+1)) (gg.more (Nat.le_of_eq (Nat.add_assoc _ _ _))));have gF:Hid (∀ j (hj:j<(hs++[(k2,fnT (kid i))]).length),(hs++[(k2,fnT (kid i))])[j].2=fnT (kid j)):=Hd fun j hj=>by
    rcases Nat.lt_or_ge j hs.length with h|h
    . rw[List.getElem_append_left h];exact gt.out j h
    .
     have gy:j=i:=by simp at hj;omega
     subst gy;rw[List.getElem_append_right (by omega)];simp
   clear gg gk gc p0 p1 p2;obtain⟨o3,m3,V3,bt3⟩:=gl.out;have gw:w1.heap.size<=w3.heap.size:=bt3.chg.size;have gd:=Hd bt3;clear bt3;go_upto_region 30 with (at_builtin;refine Zby Zm9 _ rfl _ _ rfl w1.heap.size _ (Zbh (hs.map Prod.fst)) _ rfl rfl rfl rfl rfl (by exact gd.out.l.own) (by simp[Zbh];omega) gw ?_;intro v5 w5 gh r1 r2 r3 r4 gp)
   have gx:Hid (BuiS K n Od room w0 mb (fs++(hs++[(k2,fnT (kid i))])) (k2+1) (M+Ze7 n kid (i+1)) o w1 v5 ((hs++[(k2,fnT (kid i))]).map Prod.fst) w5):=Hd (by
    have:=BuiS.app gd.out gh r1 r2 r3 r4 gp hw0;rw[List.append_assoc] at this;rw[List.map_append];exact this)
   clear gh r1 r2 r3 r4 gp gd gl;go_wp2_with fail;go_roundw
   case rel=>exact⟨i+1,hs++[(k2,fnT (kid i))],k2+1,by omega,by go_num,by simp;omega,by
    show k2+1+2*((i+1:Nat):Int)<=nx+3*(((sumN i fun i=>(kid i).size)+(kid i).size:Nat):Int)
    omega,gF,gx⟩
   case measure=>simp[intOf];omega
  .
   obtain rfl:i=nk:=by omega
   have gz:¬ (i:Int)<i:=by omega
   have f0:=g0.out.goes.cell (p:=⟨w.heap.size,0,none⟩) d0 on;have gv:=HSZ.out;have gG:nxi+2*i+3<=nx+3*E.size:=by omega
   have hnk:=gD.out;have gJ:1<=i:=by omega
   clear gv H5 IH HSZ HKS HPOS;obtain⟨o1,m1,V1,bt⟩:=g0.out;have gc:=Hd bt;clear bt;subst hnk;obtain⟨⟨k0,F0⟩,rfl⟩:=List.length_eq_one_iff.1 gA;obtain⟨g,cp,rfl,ga⟩:=g0.out.cellsN (i:=1) rfl (by omega);have c0:wy.cell? ⟨g,0,none⟩=some (.int .i64 k0):=ga 0 (by omega);have HF:Hid (notF F0=fnT E):=Hd (by rw[hF,<- gt.out 0 (by simp)];rfl);have HN:=Hd (Zzk HKK.out gc.out.refl (by omega) (k:=k0) (F:=F0) (by simp));clear ga;go_wp2_with fail;refine HN.out.mono ?_;rintro y w3 ⟨rfl,g3⟩;have gu:=Hd (gc.out.go g3);obtain⟨g',cp',ev,gq⟩:=gu.out.cellsN (i:=1) rfl (by omega);cases ev;have c3:w3.cell? ⟨g,0,none⟩=some (.int .i64 k0):=gq 0 (by omega);have HD:=Hd (Zm8 HKK.out (hs:=[(k0,F0)]) (r:=[(nxi,notF F0)]) (by have:=gu.out.goes;rw[List.append_assoc] at this;exact this) HB2.out (by omega) (by simp) (T:=w3.alloc (.cells #[.int .i64 k0] 3)) rfl);clear g3 gq HN;go_wp2_with fail;refine HD.out.mono ?_;rintro y w4 ⟨rfl,g4⟩;have gE:=Hd (HQ.out nxi _ w4 _ HF.out (by omega) (by have:=HEP.out;have:=HCK.out 1;omega) g4);clear g4 HD;go_wp2_with fail;exact gE.out
end
end Go.Proofs.YtkbegdkpboklpaaGreat
