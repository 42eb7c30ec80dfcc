/- Several texts in one file: contracts of the program's functions and what follows from them. -/
import Derived.Test.YtkidaindpahefaaGreatY4
import Derived.Maps.RangeRun
import Derived.Shelf.SlSortCmp.WholeK
import Derived.Shelf.SlicesG.Cmp
import Derived.Shelf.SlGeneric
import Derived.Ground.SlsfProg
import Derived.Ground.SlgcProg
import Derived.Test.YtkidaindpahefaaGreatProg
import Derived.Shelf.SlSortCmp.NoneTotal
import Derived.Sort.CutIn
set_option linter.unusedSimpArgs false
set_option linter.unusedVariables false
set_option linter.unusedSectionVars false
set_option linter.unnecessarySimpa false
set_option maxRecDepth 100000
set_option maxHeartbeats 8000000
namespace Go.Proofs.YtkidaindpahefaaGreat
open Go.Proofs.Tryz
open Go.RowKit Go.Shelf
variable {P:Program}{Q:Exit->Act->Wd->Prop}{W0 w w1 wr:Wd}{a:Act}{clock gf mb n:Nat}{oG:Own}{seen:Array Nat}{v:Value}
section
variable {F:Fence}{α:Type}
def L1 (F:Fence)(n d:Nat)(P:Program)(g:Nat)(lb:Array Value)(encs:α->Array Value)(n₀:Nat)(Bx:Nat->Prop)(Good:List α->Prop)(w:Wd):Prop :=
 ∀ (l:Nat) (J:List α->(Nat->Prop)->Wd->Prop) (M:Nat->Prop) (W:Wd),FO n₀ J->Minds n₀ J->Wr (fun k=>n₀<=k/\¬ Bx k) w W->(∀ k,Bx k->¬ M k) ->
  (∀ pre x M W1,J pre M W1->(∃ suf,Good (pre++x::suf))->YieldAt F (n-1-d) P l (encs x) W1 fun e W' =>
   e=.returned (.bool true)/\∃ M',J (pre++[x]) M' W'/\Wr M W1 W'/\∀ k,M' k->M k\/W1.heap.size<=k) ->
  J [] M W ->
  CallsIn F n P g (#[.func (.yield l) #[] #[]]++lb) W fun e W'=>(∃ v,e=.returned v)/\∃ xs M',Good xs/\J xs M' W'/\Wr (fun k=>n₀<=k) W W'/\∀ k,M' k->M k\/W.heap.size<=k
theorem Rw {g:Operand}{ps:Array Tmp}{assign body:Code}(hro:F.round=none)(h1:1<=n){lb:Array Value}(hg:a.eval g=.func (.func gf) #[] lb)
 (hFg:F.fn gf) (eg:∀ args w,(callFunc gf args).run P w=.ok (.enter gf args) w) {encs:α->Array Value} {n₀:Nat} {Bx:Nat->Prop} {Good:List α->Prop} {d:Nat} (hseq:L1 F (n-1) d P gf lb encs n₀ Bx Good w) (hn0:n₀<=w.heap.size)
 (hBx:∀ k,Bx k->k<w.heap.size) (hps:∀ x,(encs x).size=ps.size) (I:List α->(Nat->Prop)->Wd->Prop) (hOw:FO n₀ I) (hMi:Minds n₀ I) (M0:Nat->Prop) (hM0:∀ k,Bx k->¬ M0 k) (h0:I [] M0 w)
 (Ax:α->Act->Wd->Wd->Prop) (hAx:∀ x a' W W1 W2 l,l<W.heap.size->Ax x a' W W1->Wr (· = l) W1 W2->Ax x a' W W2)
 (hassign:∀ (l:Nat) (pre:List α) (x:α) (M:Nat->Prop) (W:Wd) (K:Act->Wd->Prop),I pre M W->(∀ a' W',Wr (fun _=>False) W W'->Ax x a' W W'->K a' W') ->
  assign.wpIn (F.inRound l) (n-1-1-d) P (Exit.then K (fun _ _ _=>False)) { tmps:=(ps.zip (encs x)).foldl (fun t (p,v)=>t.setIfInBounds p v) a.tmps,defers:=[] } W)
 (hbody:∀ (l:Nat) (pre:List α) (x:α) (a':Act) (M:Nat->Prop) (W0 W:Wd),I pre M W->Ax x a' W0 W->W0.heap.size<=W.heap.size->w.heap.size<=W0.heap.size->(∃ suf,Good (pre++x::suf))->body.wpIn (F.inRound l) (n-1-1-d) P
  (fun e _ W'=>match e with|.normal=>∃ M',I (pre++[x]) M' W'/\Wr (fun k=>M k\/W0.heap.size<=k) W W'/\(∀ k,M' k->M k\/W0.heap.size<=k)|_=>False) a' W)
 (hdone:∀ (xs:List α) (D:Nat) (M:Nat->Prop) (W:Wd),Good xs->w.heap.size<=D->¬ M D->I xs M W->(∀ k,M k->M0 k\/w.heap.size<=k)->Wr (fun k=>n₀<=k) w W->W.heap[D]?=some (.deferred (some []))->Q .normal { a with defers:={ target:=.collected D,args:=#[] }::a.defers } W) :
 (Code.rangeFunc g ps assign body).wpIn F n P Q a w:=by
 refine wpIn_rangeFunc ?_;intro fn go;rw[hro]
 let rec0:LoopState->Loop:=fun st=>{ state:=st,pending:=none,fn,tmps:=a.tmps,params:=ps,assign,body,defers:=w.heap.size }
 obtain⟨W1,g1⟩:=Ex ((w.alloc (.deferred (some []))).alloc (.loop (rec0 .ready)));have gu:W1.heap[w.heap.size+1]?=some (.loop (rec0 .ready)):=by
  rw[g1];have:=World.alloc_heap_new (w.alloc (.deferred (some []))) (.loop (rec0 .ready))
  rwa [VO] at this
 have gw:W1.heap[w.heap.size]?=some (.deferred (some [])):=by
  rw[g1];exact(Wv _ _ _ (by simp)).trans (World.alloc_heap_new w _)
 have g5:∀ N:Nat->Prop,Wr N w W1:=fun N=>by rw[g1];exact((Wr.refl N w).alloc _).alloc _
 have g2:=hOw [] M0 w h0;have gv:I [] M0 W1:=hMi _ _ _ _ h0 (g5 _)
 refine⟨w.heap.size+1,[{ target:=.collected w.heap.size,args:=#[] }],W1,{ target:=.fn (.func gf) lb,args:=#[.func (.yield (w.heap.size+1)) #[] #[]] },W1,gf,
  #[.func (.yield (w.heap.size+1)) #[] #[]]++lb,W1,?_,?_,?_,?_,fun _=>h1,?_⟩
 . rw[g1];exact run_enterLoop_outer _ _ _ _ _
 . simp only[resolve,hg];simp[go_sem]
 . intro f' gd;simp[Target.leads] at gd;subst gd;exact hFg
 . simp[invoke,go_sem,eg]
 refine(hseq (w.heap.size+1)
  (fun pre N W=>∃ M,I pre M W/\(∀ k,N k↔(M k\/k=w.heap.size+1\/k=w.heap.size))/\¬ M (w.heap.size+1)/\¬ M w.heap.size/\(∀ k,M k->M0 k\/w.heap.size<=k) /\
   W.heap[w.heap.size+1]?=some (.loop (rec0 .ready))/\W.heap[w.heap.size]?=some (.deferred (some [])))
  (fun k=>M0 k\/k=w.heap.size+1\/k=w.heap.size) W1 ?_ ?_ (g5 _) ?_ ?_ ?_).mono ?_
 ·rintro pre N W ⟨M,hi,hN,_,_,_,hl,hd⟩ k hk;rcases(hN k).1 hk with hk|hk|hk
  . exact hOw _ _ _ hi k hk
  . subst hk;exact⟨by omega,(Vm.1 hl).1⟩
  . subst hk;exact⟨hn0,(Vm.1 hd).1⟩
 ·rintro pre N W W' ⟨M,hi,hN,h2,h3,h4,hl,hd⟩ hw;refine⟨M,hMi _ _ _ _ hi ?_,hN,h2,h3,h4,?_,?_⟩
  . exact⟨hw.os,hw.tape,hw.output,hw.size,fun k hk hn=>hw.keep k hk (fun⟨a,b⟩=>hn ⟨a,fun e=>b ((hN k).2 (.inl e))⟩)⟩
  . exact(hw.keep _ (Vm.1 hl).1 (fun⟨_,b⟩=>b ((hN _).2 (.inr (.inl rfl))))).trans hl
  . exact(hw.keep _ (Vm.1 hd).1 (fun⟨_,b⟩=>b ((hN _).2 (.inr (.inr rfl))))).trans hd
 ·intro k hk hm;have:=hBx k hk;rcases hm with hm|hm|hm
  . exact hM0 k hk hm
  . omega
  . omega
 ·rintro pre x N W ⟨M,hi,hN,h2,h3,h4,hl,hd⟩ ge;have ga:w.heap.size+1<W.heap.size:=(Vm.1 hl).1;have hy:=run_yield (P:=P) (args:=encs x) hl (hps x);refine⟨fn,_,assign,body,hy,roundIn_of_wpIn go (hassign _ pre x M W _ hi ?_)⟩;intro a' Wa g0 gt;have gk:=(g0.keep _ ga (fun h=>h)).trans hl;have gq:=(g0.keep _ (by omega) (fun h=>h)).trans hd;have g6:w.heap.size+1<Wa.heap.size:=by have:=g0.size;omega
  refine⟨_,run_beginRound gk rfl,?_⟩;have gm:I pre M Wa:=hMi _ _ _ _ hi (g0.mono (fun _ h=>h.elim));have g8:Wr (· = w.heap.size+1) Wa (Wa.putObj (w.heap.size+1) (.loop { rec0 .ready with state:=.busy })):=(Wr.refl (· = w.heap.size+1) Wa).putObj (l:=w.heap.size+1) (.inl rfl) _;have gl:I pre M (Wa.putObj (w.heap.size+1) (.loop { rec0 .ready with state:=.busy })):=hMi _ _ _ _ gm (g8.mono (fun k e=>by have e':k=w.heap.size+1:=e;subst e';exact⟨by omega,h2⟩));have gj:(Wa.putObj (w.heap.size+1) (.loop { rec0 .ready with state:=.busy })).heap[w.heap.size+1]?=some (.loop { rec0 .ready with state:=.busy }):=Yb g6;have gp:(Wa.putObj (w.heap.size+1) (.loop { rec0 .ready with state:=.busy })).heap[w.heap.size]?=some (.deferred (some [])):=(Ww (by omega)).trans gq;refine wpIn_mono (hbody _ pre x a' M W _ gl (hAx _ _ _ _ _ _ ga gt g8) (by simp;exact g0.size) (by omega) ge) ?_;intro e a3 W3 hp;cases e with
  | normal =>
    obtain⟨M',gn,g4,g3⟩:=hp;have gc:=(g4.keep _ (by simp;exact g6) (fun e=>by rcases e with e|e;exact h2 e;omega)).trans gj;have gr:=(g4.keep _ (by simp;omega) (fun e=>by rcases e with e|e;exact h3 e;omega)).trans gp;have gg:=(Vm.1 gc).1;have g9:¬ M' (w.heap.size+1):=fun e=>by rcases g3 _ e with h|h;exact h2 h;omega
    have gi:¬ M' w.heap.size:=fun e=>by rcases g3 _ e with h|h;exact h3 h;omega
    refine⟨_,_,run_endRound (P:=P) none gc,rfl,fun k=>M' k\/k=w.heap.size+1\/k=w.heap.size,⟨M',?_,fun k=>Iff.rfl,g9,gi,?_,Yb gg,(Ww (by omega)).trans gr⟩,?_,?_⟩
    . exact hMi _ _ _ _ gn ((Wr.refl _ _).putObj (.inl ⟨by omega,g9⟩) _)
    ·intro k hk;rcases g3 k hk with h|h
     . exact h4 k h
     . right;omega
    ·refine((((g0.mono (N:=N) (fun _ h=>h.elim)).putObj (l:=w.heap.size+1) (.inl ((hN _).2 (.inr (.inl rfl)))) _).trans (N:=N) g4 (fun k _ h=>h) (fun k hk h=>?_)).putObj (l:=w.heap.size+1) (.inl ((hN _).2 (.inr (.inl rfl)))) _);rcases h with h|h
     . exact(hN k).2 (.inl h)
     . omega
    ·rintro k (hk|hk)
     ·rcases g3 k hk with h|h
      . exact .inl ((hN k).2 (.inl h))
      . exact .inr h
     . exact .inl ((hN k).2 (.inr hk))
  | ret=>exact hp.elim
  | exit id=>exact hp.elim
  | goto t=>exact hp.elim
  | panic ch=>exact hp.elim
  | outgrown=>exact hp.elim
 . exact⟨M0,gv,fun k=>Iff.rfl,fun e=>by have:=(g2 _ e).2;omega,fun e=>by have:=(g2 _ e).2;omega,fun k h=>.inl h,gu,gw⟩
 ·rintro e W2 ⟨⟨v,rfl⟩,xs,N,g7,⟨M,hi,hN,h2,h3,h4,hl,hd⟩,gh,_⟩;refine⟨none,_,run_endLoop (P:=P) hl (by simp[rec0]),hdone xs _ M _ g7 (Vo _) h3 ?_ h4 ?_ ((Ww (by omega)).trans hd)⟩
  . exact hMi _ _ _ _ hi ((Wr.refl _ _).putObj (.inl ⟨by omega,h2⟩) _)
  . exact((g5 (fun k=>n₀<=k)).trans gh (fun _ _ h=>h) (fun _ _ h=>h)).putObj (.inl (by omega)) _
end
open Go.ChangeMaps (setBlock)
def AQ (q:Nat×Nat):List Value:=[Iv q.1,Iv q.2]
theorem L2 {α β:Type}{f:α->β}{l:List α}(h:(l.map f).Nodup):l.Nodup:=(Xk.1 h).imp fun hne e=>hne (Wb f e)
def IJ:Value->Nat
 | .int _ n=>n.toNat
 | _=>0
def unE:Value->Nat×Nat
 | .agg cs=>(IJ (cs.getD 0 undef),IJ (cs.getD 1 undef))
 | _=>(0,0)
theorem Rx (q:Nat×Nat):unE (encE q)=q:=by simp[unE,encE,IJ]
structure CN (es:Array MapEntry)(clock:Nat)(seen:Array Nat)(ks:List (Nat×Nat))(sl:List MapEntry):Prop where
 sub:∀ e∈sl,e∈es.toList
 born:sl.map (·.born)=seen.toList
 nodup:(sl.map (·.born)).Nodup
 keys:sl.map (·.key)=ks.map encE
theorem CN.start (es:Array MapEntry)(clock:Nat):CN es clock #[] [] []:=⟨fun _ h=>(by cases h),rfl,Yc,rfl⟩
theorem CN.next {es:Array MapEntry}{ks:List (Nat×Nat)}{sl:List MapEntry}(h:CN es clock seen ks sl){e:MapEntry}(he:e∈(leftOf es seen).toList){q:Nat×Nat}(hq:e.key=encE q):CN es clock (seen.push e.born) (ks++[q]) (sl++[e]):=by
 obtain⟨h1,h2⟩:=mem_left he;refine⟨fun x hx=>?_,by simp[h.born],?_,by simp[h.keys,hq]⟩
 ·rcases Vy.1 hx with hx|hx
  . exact h.sub x hx
  . simp at hx;subst hx;exact h1
 ·rw[VK,Wg];refine⟨h.nodup,by simp,fun a ha b hb=>?_⟩;simp at hb;subst hb;rintro rfl;rw[h.born] at ha;have:seen.contains e.born=true:=by simpa using ha
  rw[this] at h2;cases h2
theorem CN.all {es:Array MapEntry}{ks:List (Nat×Nat)}{sl:List MapEntry}(h:CN es clock seen ks sl)(hn:(es.toList.map (·.born)).Nodup)(h0:(leftOf es seen).size=0):sl.Perm es.toList:=by
 have g0:=all_seen es seen h0;refine(XJ (L2 h.nodup) (L2 hn)).2 fun e=>⟨h.sub e,fun he=>?_⟩
 have h1:=g0 e he;have h2:e.born∈sl.map (·.born):=by rw[h.born];simpa using h1
 obtain⟨x,hx,e1⟩:=Vz.1 h2;have:x=e:=born_inj hn (h.sub x hx) he e1;rw[<- this];exact hx
theorem CN.keysOf {w:Wd}{b:Nat}{l:List ((Nat×Nat)×Value)}{es:Array MapEntry}{ks:List (Nat×Nat)}{sl:List MapEntry}(h:CN es clock seen ks sl)(hn:(es.toList.map (·.born)).Nodup)(h0:(leftOf es seen).size=0)
 (hl:es.toList.map (fun e=>(e.key,e.val))=l.map (fun p=>(encE p.1,p.2))):ks.Perm (l.map Prod.fst):=by
 have h1:(ks.map encE).Perm ((l.map Prod.fst).map encE):=by
  rw[<- h.keys];have h2:=(h.all hn h0).map (fun e:MapEntry=>e.key);refine h2.trans ?_;have h3:=Wb (List.map Prod.fst) hl;simp only[Xe] at h3;have e1:(es.toList.map fun e:MapEntry=>e.key)=(l.map Prod.fst).map encE:=by
   rw[Xe];exact h3
  rw[e1]
 have h2:=h1.map unE;simpa [Xe,Function.comp_def,Rx] using h2
theorem Ry:(prog.info? 280).map (fun i=>(i.zero,i.size,i.bytes))=some (some (.agg #[Iv 0,Iv 0]),2,16):=by kernel_rfl
structure KeyS (W0:Wd)(mb r clock:Nat)(es:Array MapEntry)(seen:Array Nat)(ks:List (Nat×Nat))(sl:List MapEntry)(v:Value)(oG:Own)(wr:Wd):Prop where
 low:Bw W0 wr
 it:wr.heap[r]?=some (.mapIter (some mb) clock seen clock)
 came:CN es clock seen ks sl
 row:RowR oG wr .slots 280 2 v ks.length (ks.flatMap AQ)
 lt:Ab oG wr
 ge:∀ k q,oG k=some q->q=.slots/\W0.heap.size<=k
 no:oG r=none
 cnt:ks.length+(leftOf es seen).size<=es.size
theorem KeyS.next {W0:Wd}{mb r clock:Nat}{es:Array MapEntry}{seen:Array Nat}{ks:List (Nat×Nat)}{sl:List MapEntry}{v v':Value}{oG o1:Own}{wr w1 w2 w3 w4:Wd}(h:KeyS W0 mb r clock es seen ks sl v oG wr)(hr0:W0.heap.size<=r){e:MapEntry}(he:e∈(leftOf es seen).toList){q:Nat×Nat}(hq:e.key=encE q)
 (hw1:w1=wr\/w1=wr.drew) (hw2:w2=setBlock w1 r (.mapIter (some mb) clock (seen.push e.born) clock)) (hb3:Bw w2 w3)
 (hr:RowR o1 w4 .slots 280 2 v' (ks.length+1) (ks.flatMap AQ++AQ q)) (hc:Chg (· = .slots) oG o1 w3 w4) (hl:Ab o1 w4) :
 KeyS W0 mb r clock es (seen.push e.born) (ks++[q]) (sl++[e]) v' o1 w4:=by
 have g0:r<wr.heap.size:=(Vm.1 h.it).1;have z2:w2.heap.size=wr.heap.size:=by rw[hw2];rcases hw1 with rfl|rfl<;>simp[setBlock]
 have i2:w2.heap[r]?=some (.mapIter (some mb) clock (seen.push e.born) clock):=by rw[hw2];rcases hw1 with rfl|rfl<;>simp[setBlock,g0]
 have k2:∀ g,g≠r->w2.heap[g]?=wr.heap[g]?:=fun g hg=>by
  rw[hw2];rcases hw1 with rfl|rfl<;>simp[setBlock,Xp,Wi hg]<;>rfl
 have b2:Bw W0 w2:=h.low.trans ⟨by rw[hw2];rcases hw1 with rfl|rfl<;>rfl,by rw[hw2];rcases hw1 with rfl|rfl<;>rfl,by rw[hw2];rcases hw1 with rfl|rfl<;>rfl,by omega,fun g hg=>k2 g (by omega)⟩;have nn:∀ g,g<W0.heap.size->oG g=none:=fun g hg=>by
  cases eo:oG g with
  | none=>rfl
  | some r=>have:=(h.ge g r eo).2;omega
 have s0:=h.low.size;have b3:=b2.trans (hb3.mono (by omega));refine⟨b3.trans ⟨hc.os,hc.tape,hc.output,hc.size,fun g hg=>hc.alien (by have:=b3.size;omega) (nn g hg)⟩,?_,h.came.next he hq,by simpa using hr,hl,fun g q hg=>?_,hc.alien' (by have:=hb3.size;omega) h.no,by have h1:=left_shrinks es seen e he;have h2:=h.cnt;simp;omega⟩
 . rw[hc.alien (by have:=hb3.size;omega) h.no,hb3.block r (by omega)];exact i2
 ·by_cases eo:o1 g=oG g
  . rw[eo] at hg;exact h.ge g q hg
  ·obtain⟨a1,p,a2,a3⟩:=hc.new g eo;rw[hg] at a2;cases a2
   have:=hb3.size;exact⟨a3,by omega⟩
theorem KeyS.row3 {r:Nat}{es:Array MapEntry}{ks:List (Nat×Nat)}{sl:List MapEntry}{w2 w3:Wd}(h:KeyS W0 mb r clock es seen ks sl v oG wr){x:Obj}(hw1:w1=wr\/w1=wr.drew)(hw2:w2=setBlock w1 r x)(hb3:Bw w2 w3) :
 RowR oG w3 .slots 280 2 v ks.length (ks.flatMap AQ)/\Ab oG w3:=by
 have z2:w2.heap.size=wr.heap.size:=by rw[hw2];rcases hw1 with rfl|rfl<;>simp[setBlock]
 have k2:∀ g,g≠r->w2.heap[g]?=wr.heap[g]?:=fun g hg=>by
  rw[hw2];rcases hw1 with rfl|rfl<;>simp[setBlock,Xp,Wi hg]<;>rfl
 refine⟨h.row.keep (fun g hg=>?_) (fun _ h=>h),h.lt.mono (by have:=hb3.size;omega)⟩;have h1:=h.lt g _ hg;rw[hb3.block g (by omega)];exact k2 g (by rintro rfl;rw[h.no] at hg;cases hg)
end Go.Proofs.YtkidaindpahefaaGreat

namespace Go.Proofs
open Go.Proofs.Tryz
open Go.Shelf
def Tryz.sortKeys_ren:Go.Shelf.Ren:=⟨fun|6=>269|15=>137|14=>273|28=>193|29=>194|20=>275|21=>276|22=>277|23=>278|24=>279|25=>280|26=>281|27=>282|46=>283|47=>238|48=>239|49=>284|50=>285|57=>286|n=>n,fun|22=>297|24=>280|25=>307|3=>3|39=>170|0=>0|53=>223|55=>163|4=>4|46=>217|45=>216|50=>88|5=>5|9=>9|66=>264|70=>268|76=>298|77=>137|n=>n,fun|n=>n⟩
theorem Tryz.sortKeys:Go.Proofs.SlLaysF0.n6 prog Tryz.sortKeys_ren:={
 mixed:=by kernel_rfl
 f6:=⟨Tryz.f269.name,by decide,func269.trans (congrArg some (by kernel_rfl))⟩
 f14:=⟨Tryz.f273.name,by decide,func273.trans (congrArg some (by kernel_rfl))⟩
 f15:=func137.trans (congrArg some (by kernel_rfl))
 f20:=⟨Tryz.f275.name,by decide,func275.trans (congrArg some (by kernel_rfl))⟩
 f21:=⟨Tryz.f276.name,by decide,func276.trans (congrArg some (by kernel_rfl))⟩
 f22:=⟨Tryz.f277.name,by decide,func277.trans (congrArg some (by kernel_rfl))⟩
 f23:=⟨Tryz.f278.name,by decide,func278.trans (congrArg some (by kernel_rfl))⟩
 f24:=⟨Tryz.f279.name,by decide,func279.trans (congrArg some (by kernel_rfl))⟩
 f25:=⟨Tryz.f280.name,by decide,func280.trans (congrArg some (by kernel_rfl))⟩
 f26:=⟨Tryz.f281.name,by decide,func281.trans (congrArg some (by kernel_rfl))⟩
 f27:=⟨Tryz.f282.name,by decide,func282.trans (congrArg some (by kernel_rfl))⟩
 f28:=func193.trans (congrArg some (by kernel_rfl))
 f29:=func194.trans (congrArg some (by kernel_rfl))
 f46:=⟨Tryz.f283.name,by decide,func283.trans (congrArg some (by kernel_rfl))⟩
 f47:=func238.trans (congrArg some (by kernel_rfl))
 f48:=func239.trans (congrArg some (by kernel_rfl))
 f49:=⟨Tryz.f284.name,by decide,func284.trans (congrArg some (by kernel_rfl))⟩
 f50:=⟨Tryz.f285.name,by decide,func285.trans (congrArg some (by kernel_rfl))⟩
 f57:=⟨Tryz.f286.name,by decide,func286.trans (congrArg some (by kernel_rfl))⟩
 t0:=underlying0
 a0:=Tryz.isAgg0
 z0:=Tryz.sizeOf0
 v0:=zeroValue0
 t3:=underlying3
 a3:=Tryz.isAgg3
 z3:=Tryz.sizeOf3
 v3:=zeroValue3
 t4:=underlying4
 a4:=Tryz.isAgg4
 z4:=Tryz.sizeOf4
 v4:=zeroValue4
 t5:=underlying5
 a5:=Tryz.isAgg5
 z5:=Tryz.sizeOf5
 v5:=zeroValue5
 t9:=underlying9
 a9:=Tryz.isAgg9
 z9:=Tryz.sizeOf9
 v9:=zeroValue9
 t22:=underlying297
 a22:=Tryz.isAgg297
 z22:=Tryz.sizeOf297
 v22:=zeroValue297
 t25:=underlying307
 a25:=Tryz.isAgg307
 z25:=Tryz.sizeOf307
 v25:=zeroValue307
 t39:=underlying170
 a39:=Tryz.isAgg170
 z39:=Tryz.sizeOf170
 v39:=zeroValue170
 t45:=underlying216
 a45:=Tryz.isAgg216
 z45:=Tryz.sizeOf216
 v45:=zeroValue216
 t46:=underlying217
 a46:=Tryz.isAgg217
 z46:=Tryz.sizeOf217
 v46:=zeroValue217
 t50:=underlying88
 a50:=Tryz.isAgg88
 z50:=Tryz.sizeOf88
 v50:=zeroValue88
 t53:=underlying223
 a53:=Tryz.isAgg223
 z53:=Tryz.sizeOf223
 v53:=zeroValue223
 t55:=underlying163
 a55:=Tryz.isAgg163
 z55:=Tryz.sizeOf163
 v55:=zeroValue163
 t66:=underlying264
 a66:=Tryz.isAgg264
 z66:=Tryz.sizeOf264
 v66:=zeroValue264
 t70:=underlying268
 a70:=Tryz.isAgg268
 z70:=Tryz.sizeOf268
 v70:=zeroValue268
 t76:=underlying298
 a76:=Tryz.isAgg298
 z76:=Tryz.sizeOf298
 v76:=zeroValue298
 t77:=underlying137
 a77:=Tryz.isAgg137
 z77:=Tryz.sizeOf137
 v77:=zeroValue137 }
def Tryz.cmpInt_ren:Go.Shelf.Ren:=⟨fun|5=>90|7=>138|n=>n,fun|22=>3|3=>3|4=>4|n=>n,fun|n=>n⟩
theorem Tryz.cmpInt:Go.Proofs.SlLaysC2.n5 prog Tryz.cmpInt_ren:={
 mixed:=by kernel_rfl
 f5:=⟨Tryz.f90.name,by decide,func90.trans (congrArg some (by kernel_rfl))⟩
 f7:=⟨Tryz.f138.name,by decide,func138.trans (congrArg some (by kernel_rfl))⟩
 t3:=underlying3
 a3:=Tryz.isAgg3
 z3:=Tryz.sizeOf3
 v3:=zeroValue3
 t4:=underlying4
 a4:=Tryz.isAgg4
 z4:=Tryz.sizeOf4
 v4:=zeroValue4
 t22:=underlying3
 a22:=Tryz.isAgg3
 z22:=Tryz.sizeOf3
 v22:=zeroValue3 }
def Tryz.cmpEdge_ren:Go.Shelf.Ren:=⟨fun|5=>271|7=>274|n=>n,fun|22=>101|3=>3|4=>4|n=>n,fun|n=>n⟩
theorem Tryz.cmpEdge:Go.Proofs.SlLaysC2.n5 prog Tryz.cmpEdge_ren:={
 mixed:=by kernel_rfl
 f5:=⟨Tryz.f271.name,by decide,func271.trans (congrArg some (by kernel_rfl))⟩
 f7:=⟨Tryz.f274.name,by decide,func274.trans (congrArg some (by kernel_rfl))⟩
 t3:=underlying3
 a3:=Tryz.isAgg3
 z3:=Tryz.sizeOf3
 v3:=zeroValue3
 t4:=underlying4
 a4:=Tryz.isAgg4
 z4:=Tryz.sizeOf4
 v4:=zeroValue4
 t22:=underlying101
 a22:=Tryz.isAgg101
 z22:=Tryz.sizeOf101
 v22:=zeroValue101 }
end Go.Proofs

namespace Go.Proofs.YtkidaindpahefaaGreat
open Go.Proofs.Tryz
open Go.RowKit Go.Shelf Go.Lib Go.Sort
variable {E:Nat->Int}{M:Nat->Prop}{N:Nat->Option BN}{P:Program}{Q:Exit->Act->Wd->Prop}{R:Role->Prop}{T:TypeId}{V V0:Nat->BF}{W W' w w' w0 w1 wr wx:Wd}{Wt ps:List (Nat×Nat)}{a:Act}{b:BN}{base cap e g hi i id j k lo mb n n₀ sb t x y:Nat}{d d' d0:Ae}{lm:List ((Nat×Nat)×Value)}{m:ManD}{o' o1 oG:Own}{s:BL}{u v v':Value}{zs:List Int}
def orI:List Int->Int
 | []=>0
 | z::zs=>if z=0 then orI zs else z
theorem Rz (hk:k<zs.length):orI (zs.drop k)=if at0 zs k=0 then orI (zs.drop (k+1)) else at0 zs k:=by
 rw[Az hk,VT hk];rfl
theorem R0 (a:Option Addr)(c:Nat)(zs:List Int)(w:Wd)(hz:Au w a zs)(hl:zs.length<=1000000) :
 Cl 89 #[.slice a zs.length c] w fun x w'=>x=.returned (Iv (orI zs))/\w'=w:=by
 have HZ:=Hd hz;clear hz
 go_enter func89,ntmps89
 go_wp2_with fail
 go_loopw [8] (fun s8 wr=>∃ k:Nat,k<=zs.length/\s8=Iv k/\w=wr/\orI zs=orI (zs.drop k)) (fun s8 _=>zs.length-(intOf s8).toNat)
 case atStart=>exact⟨0,Vu _,rfl,rfl,rfl⟩
 case round =>
  obtain⟨k,hk,rfl,rfl,ho⟩:=hrel
  by_cases g0:k<zs.length
  ·obtain⟨b,off,ha,hc⟩:=HZ.o.cells k g0;subst ha;have g2:(k:Int)<zs.length:=by omega
   have hs:=Rz g0
   by_cases h0:at0 zs k=0
   ·rw[Vs h0] at hs;rw[h0] at hc;have HO:=Hd (ho.trans hs);clear ho hs h0;go_wp2_with fail;go_roundw
    case rel=>exact⟨k+1,by omega,by go_num,trivial,HO.o⟩
    case measure=>simp[intOf];omega
   ·rw[Vn h0] at hs;have HO:=Hd (ho.trans hs);have g1:(at0 zs k == (0:Int))=false:=by simpa using h0
    clear ho hs h0
    generalize at0 zs k=z at hc g1 HO
    go_wp2_with fail;go_ret;exact⟨by rw[HO.o];rfl,rfl⟩
  ·obtain rfl:k=zs.length:=by omega
   have HO:Hq (orI zs=0):=by
    refine Hd ?_
    show _=_
    rw[ho];simp[orI]
   clear ho;go_wp2_with fail;go_ret;exact⟨by rw[HO.o];rfl,rfl⟩
def cfK (f:Nat×Nat->Option Nat)(x y:Nat×Nat):Int:=orI [compareInt ((f x).getD 0:Nat) ((f y).getD 0:Nat),compareInt x.1 y.1,compareInt x.2 y.2]
theorem ltK (f:Nat×Nat->Option Nat)(x y:Nat×Nat):ltOf (cfK f) x y=decide ((f x).getD 0<(f y).getD 0\/(f x).getD 0=(f y).getD 0/\(x.1<y.1\/x.1=y.1/\x.2<y.2)):=by
 unfold ltOf cfK
 generalize (f x).getD 0=a
 generalize (f y).getD 0=b
 obtain⟨x1,x2⟩:=x;obtain⟨y1,y2⟩:=y;have hc:∀ p q:Nat,compareInt (p:Int) (q:Int)=if p<q then -1 else if p=q then 0 else 1:=fun p q=>by
  unfold compareInt
  by_cases h1:p<q
  . rw[Vs (by omega),Vs h1]
  ·by_cases h2:p=q
   . rw[Vn (by omega),Vn (by omega),Vn h1,Vs h2]
   . rw[Vn (by omega),Vs (by omega),Vn h1,Vn h2]
 simp only[hc,orI]
 by_cases h1:a<b
 . simp[h1]
 ·by_cases h2:a=b
  ·subst h2
   by_cases h3:x1<y1
   . simp[h3]
   ·by_cases h4:x1=y1
    ·subst h4
     by_cases h5:x2<y2
     . simp[h5]
     ·by_cases h6:x2=y2
      . subst h6;simp
      . simp[h5,h6]
    . simp[h3,h4]
  . simp[h1,h2]
theorem swoK (f:Nat×Nat->Option Nat):SWO (ltOf (cfK f)) where
 irrefl x:=by rw[ltK];simp
 trans x y z h1 h2:=by rw[ltK] at *;simp at *;omega
 ntrans x y z h1 h2:=by rw[ltK] at *;simp at *;omega
theorem R3 (f:Nat×Nat->Option Nat)(x y:Nat×Nat)(Bx t mb:Nat)(W:Wd)(cB:W.cell? (Av Bx)=some (Pt t))(cT:W.cell? (Av t)=some (.map (some mb)))
 (hlk:∀ W' k,Bw W W'->(Instr.lookup 228 (.map (some mb)) (.agg #[Iv (k:Nat×Nat).1,Iv k.2]) false).run prog W'=.ok (Iv ((f k).getD 0:Nat)) W') :
 Cl 270 #[.agg #[Iv x.1,Iv x.2],.agg #[Iv y.1,Iv y.2],Pt Bx] W fun e w'=>e=.returned (Iv (cfK f x y))/\∃ q os',w'=grow (W.drewN q) os':=by
 obtain⟨W1,g2⟩:=Ex ((W.alloc (.cells #[Iv x.1,Iv x.2] 280)).alloc (.cells #[Iv y.1,Iv y.2] 280));have g0:Bw W W1:=by rw[g2];exact(Af _ _).alloc (by simp) _
 have g5:W1.heap[W.heap.size]?=some (.cells #[Iv x.1,Iv x.2] 280 (0,0)):=by rw[g2];exact(Wv _ _ _ (by simp)).trans (Vq W _)
 have g4:W1.heap[W.heap.size+1]?=some (.cells #[Iv y.1,Iv y.2] 280 (0,0)):=by
  rw[g2];have:=Vq (W.alloc (.cells #[Iv x.1,Iv x.2] 280)) (.cells #[Iv y.1,Iv y.2] 280)
  rwa [VO] at this
 obtain⟨x0,x1,_⟩:=cells2 g5;obtain⟨y0,y1,_⟩:=cells2 g4;have b1:=Cq g0 cB;have t1:=Cq g0 cT;obtain⟨i,hi⟩:=Ex (compareInt ((f x).getD 0:Nat) ((f y).getD 0:Nat):Int);obtain⟨j,hj⟩:=Ex (compareInt x.1 y.1:Int);obtain⟨k,hk⟩:=Ex (compareInt x.2 y.2:Int);have g6:cfK f x y=orI [i,j,k]:=by unfold cfK;rw[hi,hj,hk]
 obtain⟨W2,g3⟩:=Ex (W1.drew.alloc (.cells #[Iv i,Iv j,Iv k] 3));have g1:Bw W1 W2:=by rw[g3];exact(An W1 1).alloc (Vo _) _
 have lx0:=hlk W1.drew x (g0.trans ((An W1 1).mono g0.size));have ly0:=hlk W1.drew y (g0.trans ((An W1 1).mono g0.size));have lx2:=hlk W2 x (g0.trans (g1.mono g0.size));have ly2:=hlk W2 y (g0.trans (g1.mono g0.size));have x02:=Cq g1 x0;have x12:=Cq g1 x1;have y02:=Cq g1 y0;have y12:=Cq g1 y1;have b2:=Cq g1 b1;have t2:=Cq g1 t1;have HI:=Hd (fun w=>AnyG.cmp_Compare_int Tryz.cmpInt ((f x).getD 0:Nat) ((f y).getD 0:Nat) w);have HJ:=Hd (fun w=>AnyG.cmp_Compare_int Tryz.cmpEdge x.1 y.1 w);have HK:=Hd (fun w=>AnyG.cmp_Compare_int Tryz.cmpEdge x.2 y.2 w)
 have g8:Hq (Cl 89 #[.slice (some (Av W1.drew.heap.size)) 3 3] W2 fun e w'=>e=.returned (Iv (orI [i,j,k]))/\w'=W2):=Hd (R0 _ 3 [i,j,k] W2 ⟨by simp,fun q hq=>⟨_,0,rfl,by
  rw[VJ,g3,Vp _ _ _ _ _ _ (Vq W1.drew _)];simp only[VG,WI] at hq
  match q,hq with
  | 0,_=>rfl
  | 1,_=>rfl
  | 2,_=>rfl⟩⟩ (by simp))
 have HW1:Hq (_=W1):=Hd g2.symm;have g7:Hq (_=W2):=Hd g3.symm;have g9:Hq (W2=grow (W.drewN 1) #[.cells #[Iv x.1,Iv x.2] 280,.cells #[Iv y.1,Iv y.2] 280,.cells #[Iv i,Iv j,Iv k] 3]):=Hd (by rw[g3,g2,Gh,Gh,alloc_eq_grow,alloc_eq_grow,alloc_eq_grow,grow_grow,grow_grow];rfl);rw[<- hi] at HI;rw[<- hj] at HJ;rw[<- hk] at HK;rw[g6];clear g2 g3 g0 g1 hlk cB cT hi hj hk g6 g5 g4
 go_enter func270,ntmps270
 go_upto_region 1 with fail;rw[HW1.o];refine AD (fun W:Wd=>W=W1.drew\/W=W2) false 26 [(0,false),(1,false),(2,false),(3,false),(4,false),(5,false),(6,false),(7,false),(8,false),(9,false),(10,false),(11,false),(13,false),(14,false),(15,false),(16,false),(18,false),(19,false),(20,false),(21,false),(12,true),(17,true),(22,true),(23,true),(24,true),(25,false)] (by kernel_rfl) (by kernel_rfl) (.inl rfl) ?_;simp only[planned,AC]
 iterate 20
  refine As rfl ?_;apply Exists.intro;refine⟨fun w' hw=>?_,?_⟩
  ·rcases hw with rfl|rfl
   . go_simp;rfl
   ·go_simp
    all_goals (try rfl)
  simp only[Ac]
 refine Cd (R:=fun v w'=>v=Iv i/\w'=W1.drew) rfl (by go_simp;rfl) ((HI.o _).mono (fun e w' h=>⟨_,h.1,.inl h.2,rfl,h.2⟩)) ?_;rintro _ w' _ ⟨rfl,rfl⟩;simp only[Ac];refine Cd (R:=fun v w'=>v=Iv j/\w'=W1.drew) rfl (by go_simp;rfl) ((HJ.o _).mono (fun e w' h=>⟨_,h.1,.inl h.2,rfl,h.2⟩)) ?_;rintro _ w' _ ⟨rfl,rfl⟩;simp only[Ac];refine Cd (R:=fun v w'=>v=Iv k/\w'=W1.drew) rfl (by go_simp;rfl) ((HK.o _).mono (fun e w' h=>⟨_,h.1,.inl h.2,rfl,h.2⟩)) ?_;rintro _ w' _ ⟨rfl,rfl⟩;simp only[Ac];refine EG rfl (fun K hK=>?_);unfold Oper.wp;go_simp;rw[Gh,g7.o];refine hK _ _ (.inr rfl) ?_;refine Cd (R:=fun v w'=>v=Iv (orI [i,j,k])/\w'=W2) rfl (by go_simp) (g8.o.mono (fun e w' h=>⟨_,h.1,.inr h.2,rfl,h.2⟩)) ?_;rintro _ w' _ ⟨rfl,rfl⟩;simp only[Ac];refine As rfl ?_;apply Exists.intro;refine⟨fun w' hw=>?_,?_⟩
 . go_simp;rfl
 simp only[Ac];refine Bs ?_;go_wp2_with fail;go_ret;exact⟨rfl,_,_,g9.o⟩
theorem IK (w:Wd)(blk m:Nat)(dk:Array (Nat×Nat))(os:Array Obj)(hg:g<w.heap.size)(hne:g≠blk):(sortWorldK AQ 2 w blk 0 m dk os).heap[g]?=w.heap[g]?:=by
 unfold sortWorldK grow putRowK putRow mapBlock;simp[Array.getElem?_append,XG,Array.getElem_modify,hg,Wi hne]
theorem L3 (w:Wd)(blk m:Nat)(dk:Array (Nat×Nat))(os:Array Obj):w.heap.size<=(sortWorldK AQ 2 w blk 0 m dk os).heap.size:=by
 have h:(sortWorldK AQ 2 w blk 0 m dk os).heap.size=w.heap.size+os.size:=by
  unfold sortWorldK grow putRowK;simp
 omega
theorem L4 {f:Nat×Nat->Option Nat}(h:A1 w mb encE lm)(hf:∀ k,getL lm k=(f k).map (fun(id:Nat)=>Value.int .i64 id))(k:Nat×Nat) :
 (Instr.lookup 228 (.map (some mb)) (.agg #[Iv k.1,Iv k.2]) false).run prog w=.ok (Iv ((f k).getD 0:Nat)) w:=by
 have h1:=h.lookup Dw underlying228 zeroValue3 k false;rw[hf k] at h1;cases hk:f k with
 | none=>rw[hk] at h1;exact h1
 | some id=>rw[hk] at h1;exact h1
theorem R4 {f:Nat×Nat->Option Nat}{ks:List (Nat×Nat)}{Bx blk:Nat}(hH:HoldsK AQ 2 w blk 0 ks.toArray)(hblk:blk<w.heap.size)(hlen:ks.length<1000000000)
 (cB:w.cell? (Av Bx)=some (Pt t)) (cT:w.cell? (Av t)=some (.map (some mb))) (hm:A1 w mb encE lm) (hf:∀ k,getL lm k=(f k).map (fun(id:Nat)=>Value.int .i64 id)) (n1:Bx≠blk) (n2:t≠blk) (n3:mb≠blk) :
 Cl 269 #[.slice (some (Av blk)) ks.length cap,.func (.func 270) #[] #[Pt Bx]] w fun e w'=>e=.returned (.tuple #[])/\∃ ks':List (Nat×Nat),ks'.Perm ks/\HoldsK AQ 2 w' blk 0 ks'.toArray/\w.heap.size<=w'.heap.size/\w'.os=w.os/\w'.tape=w.tape/\w'.output=w.output/\∀ g,g<w.heap.size->g≠blk->w'.heap[g]?=w.heap[g]?:=by
 have g1:CmpLays prog 270 #[Pt Bx] AQ 2 (cfK f) blk 0 ks.toArray.size w:=by
  intro m os dk hs x y;have hk:∀ {p:Addr} {v:Value},w.cell? p=some v->p.block≠blk->(sortWorldK AQ 2 w blk 0 m dk os).cell? p=some v:=fun hc hn=>(Wm (w:=w) (IK w blk m dk os (Ah hc) hn)).trans hc
  refine R3 f x y Bx t mb _ (hk cB n1) (hk cT n2) (fun W' k hb=>?_);obtain⟨es,c,g3,rest⟩:=hm.ex;refine L4 (lm:=lm) ⟨⟨es,c,Eq.trans ?_ g3,rest⟩,hm.nodup⟩ hf k;exact(hb.block mb (VH hm.lt (L3 w blk m dk os))).trans (IK w blk m dk os hm.lt n3)
 have g0:=AnyQ.slices_SortFunc Tryz.sortKeys 2 Tryz.isAgg280 Tryz.sizeOf280 AQ (fun _=>rfl) (fun x v hv=>by simp[AQ] at hv;rcases hv with rfl|rfl<;>rfl) (cfK f) (swoK f) 270 #[Pt Bx] blk 0 cap ks.toArray w (XQ func270 (by kernel_rfl) rfl) g1 hH hblk (by simp;omega)
 change Cl 269 _ _ _ at g0
 have e:ks.toArray.size=ks.length:=by simp
 rw[e] at g0;refine g0.mono ?_;rintro x w' ⟨rfl,d',n,os,hp,_,rfl⟩;obtain⟨p1,_,p3⟩:=hp;have p1':d'.size=ks.length:=by simpa using p1
 refine⟨rfl,d'.toList,?_,?_,L3 _ _ _ _ _,rfl,rfl,rfl,fun g hg g2=>IK _ _ _ _ _ hg g2⟩
 ·have q1:d'.extract 0 ks.length=d':=by rw[<- p1'];simp
  rw[q1] at p3;simpa using p3
 . have h1:HoldsK AQ 2 (Sort.ahead w n) blk 0 ks.toArray:=hH;have h2:=holdsK_putRowK AQ 2 (Sort.ahead w n) blk 0 ks.toArray d' h1 (by simpa using p1');have h3:=holdsK_grow AQ 2 (putRowK AQ 2 (Sort.ahead w n) blk 0 d') os blk 0 d' (by simp[putRowK,putRow,mapBlock,hblk]) h2;simpa using(show HoldsK AQ 2 (sortWorldK AQ 2 w blk 0 n d' os) blk 0 d' from h3)
theorem R5 {f:Nat×Nat->Option Nat}{ks:List (Nat×Nat)}(hp:ks.Perm (lm.map Prod.fst))(hn:(lm.map Prod.fst).Nodup)(hf:∀ k,getL lm k=(f k).map (fun(id:Nat)=>Value.int .i64 id)){xs:List ((Nat×Nat)×Nat)}(hx:xs=ks.map (fun k=>(k,(f k).getD 0))) :
 (xs.map Prod.fst).Nodup/\∀ k id,(k,id)∈xs↔f k=some id:=by
 subst hx;have e:(ks.map (fun k=>(k,(f k).getD 0))).map Prod.fst=ks:=by simp[Xe,Function.comp_def]
 have hm:∀ k,k∈ks↔f k≠none:=fun k=>by
  rw[hp.mem_iff];have h1:=Dh (l:=lm) (k:=k);rw[hf k] at h1;constructor
  . intro hk e;rw[e] at h1;obtain⟨p,g0,rfl⟩:=Vz.1 hk;exact h1.1 rfl p g0 rfl
  ·intro hk
   by_cases hc:k∈lm.map Prod.fst
   . exact hc
   ·exfalso;have:=h1.2 (fun p g0 e=>hc (Vz.2 ⟨p,g0,e⟩));cases h2:f k with
    | none=>exact hk h2
    | some i=>rw[h2] at this;cases this
 refine⟨by rw[e];exact hp.nodup_iff.2 hn,fun k id=>?_⟩;simp only[Vz,Xd];constructor
 ·rintro⟨k0,h0,rfl,rfl⟩;cases h2:f k0 with
  | none=>exact absurd h2 ((hm k0).1 h0)
  | some i=>rfl
 . intro h;exact⟨k,(hm k).2 (by rw[h];simp),rfl,by rw[h];rfl⟩
theorem R6 {α:Type}{G:List α->Prop}{xs:List α}(hg:G xs){x:α}(hx:xs[k]?=some x):∃ suf,G (xs.take k++x::suf)/\xs.take (k+1)=xs.take k++[x]:=by
 obtain⟨hk,e⟩:=Wf.1 hx;refine⟨xs.drop (k+1),?_,by rw[Vt hk,e]⟩;have:xs.take k++x::xs.drop (k+1)=xs:=by
  rw[<- e,<- VT hk];exact Wy k xs
 rw[this];exact hg
open Go.RowKit
theorem L5 {o:Own}(h:A2 o w sb d)(hlt:Ab o w)(hk:Ak d V)(f:Nat)(hf:okE (Aa d) f)(v:Int) :
 Cl 258 #[Pt sb,Iv f,Iv v] w (Bl (.tuple #[Iv (cofs d f v).1,Iv (cofs d f v).2]) w):=by
 have HA:=Hd (FL h hlt hk f hf);clear h hk hlt hf;unfold atV at HA;unfold cofs;cases hb:Aa d (f/2) with
 | none =>
   rw[hb] at HA;clear hb
   go_enter func258,ntmps258
   go_wp2_with fail;refine HA.o.mono ?_;rintro x w' ⟨rfl,hb⟩;have HB:=Hd hb;clear hb;go_wp2_with fail
   go_ret2
   exact⟨rfl,HB.o⟩
 | some b =>
   rw[hb] at HA;clear hb
   by_cases e:(b.v:Int)=v
   ·subst e;have HE:Hq ((if (b.v:Int)=b.v then (eflip b.lo (eneg f),eflip b.hi (eneg f)) else (f,f))=(eflip b.lo (eneg f),eflip b.hi (eneg f))):=by show _=_;rw[Vs rfl]
    go_enter func258,ntmps258
    go_wp2_with fail;refine HA.o.mono ?_;rintro x w' ⟨rfl,hb⟩;have HB:=Hd hb;clear hb;go_wp2_with fail
    go_ret2
    exact⟨by first|rfl|(rw[HE.o];rfl),HB.o⟩
   ·have HE:Hq ((if (b.v:Int)=v then (eflip b.lo (eneg f),eflip b.hi (eneg f)) else (f,f))=(f,f)):=by show _=_;rw[Vn e]
    have H1:((b.v:Int) == v)=false:=by simpa using e
    go_enter func258,ntmps258
    go_wp2_with fail;refine HA.o.mono ?_;rintro x w' ⟨rfl,hb⟩;have HB:=Hd hb;clear hb;go_wp2_with fail
    go_ret2
    exact⟨by first|rfl|(rw[HE.o];rfl),HB.o⟩
def Be (d:Ae)(k:Nat):Ae:={ d with vars:=(d.vars.set k (d.vars.getD (k+1) 0)).set (k+1) (d.vars.getD k 0),level:=(d.level.set (d.vars.getD k 0) (k+1)).set (d.vars.getD (k+1) 0) k }
theorem Gm:(prog.info? 3).map (fun i=>i.size)=some 1:=by kernel_rfl
theorem E1 {l:List Nat}(hk:k<l.length):(l.map nat64)[k]?=some (Iv (l.getD k 0:Nat)):=by
 rw[WN,VD hk];simp[nat64,List.getD,hk]
theorem R7 {o:Own}(h:Ao o w sb d s)(k:Nat)(hk:k+1<d.vars.length)(hl:d.vars.length<=64)(ha:d.vars.getD k 0<d.level.length)(hb:d.vars.getD (k+1) 0<d.level.length) :
 Cl 220 #[Pt s.lb,Iv k] w fun x w'=>x=.returned (.tuple #[])/\Ao o w' sb (Be d k) s/\Chg Al o o w w':=by
 obtain⟨d0,d1,_⟩:=cells2 h.lev;obtain⟨gv,cv,g5,g2,_⟩:=h.vars.shape (by omega);obtain⟨gl,cl,g6,g3,_⟩:=h.level.shape (by omega);have ge:=h.len;have r1:=h.vars;have r2:=h.level;rw[g5] at r1 d0;rw[g6] at r2 d1;have a0:=r1.cell k (by simp;omega);have a1:=r1.cell (k+1) (by simp;omega);rw[E1 (by omega)] at a0;rw[E1 hk] at a1;obtain⟨A,hA⟩:=Ex (d.vars.getD k 0);obtain⟨B,hB⟩:=Ex (d.vars.getD (k+1) 0);rw[<- hA] at a0 ha;rw[<- hB] at a1 hb;have b0:=r2.cell A (by simpa using ha);have b1:=r2.cell B (by simpa using hb);rw[E1 ha] at b0;rw[E1 hb] at b1;have fv:=r1.frozen;have fl:=r2.frozen;have go:(k:Int)<d.vars.length:=by omega
 have gn:(k:Int)+1<d.vars.length:=by omega
 have nvl:gv≠s.lb:=fun e=>by have:=h.ownl;rw[<- e,g2] at this;cases this
 have nll:gl≠s.lb:=fun e=>by have:=h.ownl;rw[<- e,g3] at this;cases this
 have nvg:gv≠gl:=fun e=>by rw[e,g3] at g2;cases g2
 have nvs:gv≠sb:=fun e=>by have:=h.own;rw[<- e,g2] at this;cases this
 have nls:gl≠sb:=fun e=>by have:=h.own;rw[<- e,g3] at this;cases this
 obtain⟨LA,ga⟩:∃ L,L=d.level.getD A 0:=⟨_,rfl⟩;obtain⟨LB,g9⟩:∃ L,L=d.level.getD B 0:=⟨_,rfl⟩;have gf:Hq (∀ w1 w2:Wd,w1.heap=w.heap->w1.os=w.os->w1.tape=w.tape->w1.output=w.output->w2=((((w1.setCell (Aw gv k) (Iv B)).setCell (Aw gv (k+1)) (Iv A)).setCell (Aw gl A) (Iv (k+1:Nat))).setCell (Aw gl B) (Iv k))->Ao o w2 sb (Be d k) s/\Chg Al o o w w2):=by
  refine Hd ?_;rintro w1 w2 e1 e2 e3 e4 rfl;have gk:w1.heap.size=w.heap.size:=by rw[e1]
  have gg:Bw w w1:=⟨e2,e3,e4,by omega,fun k _=>by rw[e1]⟩;have gh:∀ g,g≠gv->g≠gl->((((w1.setCell (Aw gv k) (Iv B)).setCell (Aw gv (k+1)) (Iv A)).setCell (Aw gl A) (Iv (k+1:Nat))).setCell (Aw gl B) (Iv k)).heap[g]?=w.heap[g]?:=fun g n1 n2=>by
   rw[A0 n2,A0 n2,A0 n1,A0 n1,e1]
  have k1:∀ {g r},o g=some r->r ≠ .vars->r ≠ .level->((((w1.setCell (Aw gv k) (Iv B)).setCell (Aw gv (k+1)) (Iv A)).setCell (Aw gl A) (Iv (k+1:Nat))).setCell (Aw gl B) (Iv k)).heap[g]?=w.heap[g]?:=fun hg n1 n2=>gh _ (by rintro rfl;rw[g2] at hg;cases hg;exact n1 rfl) (by rintro rfl;rw[g3] at hg;cases hg;exact n2 rfl)
  have g7:=h.vars.keep (w':=w1) (fun g _=>by rw[e1]) (fun _ h=>h);rw[g5] at g7;have gc:=((((g7.stored k (Iv B)).stored (k+1) (Iv A)).setCell_other (p:=Aw gl A) (by rw[g3];simp) (Iv (k+1:Nat))).setCell_other (p:=Aw gl B) (by rw[g3];simp) (Iv k));have g8:=h.level.keep (w':=w1) (fun g _=>by rw[e1]) (fun _ h=>h);rw[g6] at g8;have gd:=(((g8.setCell_other (p:=Aw gv k) (by rw[g2];simp) (Iv B)).setCell_other (p:=(Aw gv (k+1))) (by rw[g2];simp) (Iv A)).stored A (Iv (k+1:Nat))).stored B (Iv k)
  refine⟨⟨h.own,h.ownl,(k1 h.own (by simp) (by simp)).trans h.blk,(k1 h.ownl (by simp) (by simp)).trans h.lev,?_,?_,h.pool.keep (fun g r hg hr=>k1 hg (by rintro rfl;simp at hr) (by rintro rfl;simp at hr)) (fun _ _ h=>h),h.tabs.keep (fun g hg=>k1 hg (by simp) (by simp)) (fun _ h=>h),
   fun v hv=>(h.tab v hv).keep (fun g r hg hr=>k1 hg (by rintro rfl;simp at hr) (by rintro rfl;simp at hr)) (fun _ _ h=>h),h.counts.keep (fun g hg=>k1 hg (by simp) (by simp)) (fun _ h=>h),by simp[Be,h.len],by simp[Be,h.tlen]⟩,?_⟩
  . rw[g5];simp only[Be,VM,X2,<- hA,<- hB];exact gc
  . rw[g6];simp only[Be,VM,X2,<- hA,<- hB];exact gd
  . exact((((Chg.of_below gg Al o).setCell (p:=Aw gv k) g2 (by simp[Al]) _).setCell (p:=(Aw gv (k+1))) g2 (by simp[Al]) _).setCell (p:=Aw gl A) g3 (by simp[Al]) _).setCell (p:=Aw gl B) g3 (by simp[Al]) _
 rw[<- ga] at b0;rw[<- g9] at b1;have gq:(A:Int)<d.level.length:=by omega
 have gp:(B:Int)<d.level.length:=by omega
 have gr:=Hd r1;have gt:=Hd r2;have gj:IntKind.i64.wrap ((k:Int)+1)=((k+1:Nat):Int):=by rw[Wq _ (by omega)];rfl
 have gm:((k+1:Nat):Int)<d.vars.length:=by omega
 clear h g5 g6 g2 g3 hA hB ga g9 r1 r2 ge
 go_enter func220,ntmps220
 go_upto_region 0 with fail
 go_quiet (fail)
 go_upto_region 1 with fail;refine AD (fun W:Wd=>W.cell? (Av s.lb)=some (.slice (some (Av gv)) d.vars.length cv)/\True) true 16 [(0,false),(1,false),(2,false),(3,false),(4,false),(5,false),(6,false),(7,false),(8,false),(9,false),(10,false),(11,false),(12,false),(13,false),(14,true),(15,false),(16,true)] (by kernel_rfl) (by kernel_rfl) ⟨d0,trivial⟩ ?_;simp only[planned,AC]
 iterate 14
  refine As rfl ?_;apply Exists.intro;refine⟨fun w' hw=>?_,?_⟩
  . obtain⟨h1,_⟩:=hw;go_simp;rfl
  simp only[Ac]
 refine GP (w':=(w.drewN nq).drew.setCell (Aw gv k) (Iv B)) rfl rfl (DI (w:=(w.drewN nq).drew) Gm a0 (fv _) rfl rfl) ⟨Cs (w:=(w.drewN nq).drew) d0 (.inl nvl),trivial⟩ ?_;simp only[Ac]
 iterate 1
  refine As rfl ?_;apply Exists.intro;refine⟨fun w' hw=>?_,?_⟩
  . obtain⟨h1,_⟩:=hw;go_simp;rfl
  simp only[Ac]
 refine DJ (w':=((w.drewN nq).drew.setCell (Aw gv k) (Iv B)).setCell (Aw gv (k+1)) (Iv A)) rfl rfl (DI Gm (Cs (w:=(w.drewN nq).drew) a1 (.inr (by omega))) ((Xg _ _ _ _).trans (fv _)) rfl rfl) ?_;simp only[Ac];obtain⟨w4,g4⟩:=Ex (((w.drewN nq).drew.setCell (Aw gv k) (Iv B)).setCell (Aw gv (k+1)) (Iv A));have e1:w4.cell? (Aw s.lb 1)=some (.slice (some (Av gl)) d.level.length cl):=by rw[g4];exact Cs (Cs (w:=(w.drewN nq).drew) d1 (.inl nvl)) (.inl nvl)
 have g0:w4.cell? (Aw gl A)=some (Iv LA):=by rw[g4];exact Cs (Cs (w:=(w.drewN nq).drew) b0 (.inl nvg)) (.inl nvg)
 have g1:w4.cell? (Aw gl B)=some (Iv LB):=by rw[g4];exact Cs (Cs (w:=(w.drewN nq).drew) b1 (.inl nvg)) (.inl nvg)
 have fl4:∀ j,w4.frozen? (Aw gl j)=false:=fun j=>by rw[g4];exact(Xg _ _ _ _).trans ((Xg _ _ _ _).trans (fl j))
 have gi:=Hd g4;rw[<- g4];clear g4 a0 a1 b0 b1 d0 d1 fv fl;go_upto_region 2 with fail;refine AD (fun W:Wd=>W.cell? (Aw s.lb 1)=some (.slice (some (Av gl)) d.level.length cl)/\True) true 16 [(0,false),(1,false),(2,false),(3,false),(4,false),(5,false),(6,false),(7,false),(8,false),(9,false),(10,false),(11,false),(12,false),(13,false),(14,true),(15,false),(16,true)] (by kernel_rfl) (by kernel_rfl) ⟨e1,trivial⟩ ?_;simp only[planned,AC]
 iterate 14
  refine As rfl ?_;apply Exists.intro;refine⟨fun w' hw=>?_,?_⟩
  . obtain⟨h1,_⟩:=hw;go_simp;rfl
  simp only[Ac]
 refine GP (w':=w4.drew.setCell (Aw gl A) (Iv (k+1:Nat))) rfl rfl (DI (w:=w4.drew) Gm g0 (fl4 _) rfl rfl) ⟨Cs (w:=w4.drew) e1 (.inl nll),trivial⟩ ?_;simp only[Ac]
 iterate 1
  refine As rfl ?_;apply Exists.intro;refine⟨fun w' hw=>?_,?_⟩
  . obtain⟨h1,_⟩:=hw;go_simp;rfl
  simp only[Ac]
 have g1':∃ u,(w4.drew.setCell (Aw gl A) (Iv (k+1:Nat))).cell? (Aw gl B)=some u:=AX (w:=w4.drew) g1;obtain⟨u,g1'⟩:=g1';refine DJ (w':=(w4.drew.setCell (Aw gl A) (Iv (k+1:Nat))).setCell (Aw gl B) (Iv k)) rfl rfl (DI Gm g1' ((Xg _ _ _ _).trans (fl4 _)) rfl rfl) ?_;simp only[Ac];go_wp2_with fail;go_end0;obtain⟨q1,q2⟩:=gf.o ((w.drewN nq).drew.drew) ((w4.drew.setCell (Aw gl A) (Iv (k+1:Nat))).setCell (Aw gl B) (Iv k)) rfl rfl rfl rfl (by rw[gi.o];rfl);exact⟨rfl,q1,q2⟩
section
variable {lev:Nat->Nat}{N0:Nat->Option BN}
def B0 (lev:Nat->Nat)(x y:Nat):Nat->Nat:=fun v=>if v=x then lev y else if v=y then lev x else lev v
def isV (N:Nat->Option BN)(y e:Nat):Prop:=∃ c,N (e/2)=some c/\c.v=y
def Turns (N:Nat->Option BN)(x y:Nat)(i:Nat):Prop:=∃ b,N i=some b/\b.v=x/\(isV N y b.lo\/isV N y b.hi)
def lowE (n:Nat)(lev:Nat->Nat)(N:Nat->Option BN)(y e:Nat):Prop:=okE N e/\lev y<lvE n lev N e
def midE (n:Nat)(lev:Nat->Nat)(N0 N:Nat->Option BN)(x y e:Nat):Prop:=lowE n lev N0 y e\/∃ c,N (e/2)=some c/\c.v=x/\¬ Turns N0 x y (e/2)
structure B4 (n:Nat)(lev:Nat->Nat)(N0:Nat->Option BN)(V0:Nat->BF)(x y:Nat)(done:Nat->Prop)(N:Nat->Option BN)(V:Nat->BF):Prop where
 n0:N 0=none
 ext:∀ i,(i=0\/∃ b,N0 i=some b)->V i=V0 i
 keep:∀ i b,N0 i=some b->¬ done i->N i=some b
 fresh:∀ i b,N i=some b->N0 i=none->b.v=x/\lowE n lev N0 y b.lo/\lowE n lev N0 y b.hi/\b.hi%2=0/\b.lo≠b.hi/\V i=iteF x (ef V0 b.hi) (ef V0 b.lo)
 dn:∀ i,done i->Turns N0 x y i/\∃ b,N i=some b/\b.v=y/\midE n lev N0 N x y b.lo/\midE n lev N0 N x y b.hi/\b.hi%2=0/\b.lo≠b.hi/\V0 i=iteF y (ef V b.hi) (ef V b.lo)
 xu:∀ i j b,N i=some b->N j=some b->b.v=x->¬ Turns N0 x y i->¬ Turns N0 x y j->i=j
theorem BR (hext:∀ i,(i=0\/∃ b,N0 i=some b)->V i=V0 i)(h:okE N0 e):ef V e=ef V0 e:=by
 funext ρ;simp only[ef,hext _ h]
theorem B4.start (h:Dag n lev N0 V0)(x y:Nat):B4 n lev N0 V0 x y (fun _=>False) N0 V0 :=
 ⟨h.none0,fun _ _=>rfl,fun _ _ h _=>h,fun i b hb hn=>by (rw[hn] at hb;cases hb),fun _ h=>h.elim,fun i j b hi hj _ _ _=>h.uniq i j b hi hj⟩
variable {done:Nat->Prop}
theorem B4.has (m:B4 n lev N0 V0 x y done N V)(hb:N0 i=some b):∃ b',N i=some b':=by
 by_cases hd:done i
 . obtain⟨_,b',g0,_⟩:=m.dn i hd;exact⟨b',g0⟩
 . exact⟨b,m.keep i b hb hd⟩
theorem B4.add (m:B4 n lev N0 V0 x y done N V)(hf:N id=none)(hid:id≠0)(hv:b.v=x)
 (hlo:lowE n lev N0 y b.lo) (hhi:lowE n lev N0 y b.hi) (hr:b.hi%2=0) (hne:b.lo≠b.hi) (hnew:∀ i,¬ Turns N0 x y i->N i≠some b) :
 B4 n lev N0 V0 x y done (addN N id b) (addV V id b):=by
 have g8:N0 id=none:=by
  cases e:N0 id with
  | none=>rfl
  | some c=>obtain⟨b',g6⟩:=m.has e;rw[hf] at g6;cases g6
 have ne0:∀ i,(i=0\/∃ b,N0 i=some b)->i≠id:=by
  rintro i (rfl|⟨c,hc⟩)
  . exact Wi hid
  . rintro rfl;rw[g8] at hc;cases hc
 have cs:∀ i c,addN N id b i=some c->(i=id/\c=b)\/(i≠id/\N i=some c):=by
  intro i c hx
  by_cases e:i=id
  . subst e;rw[Cc] at hx;exact .inl ⟨rfl,(Xc hx).symm⟩
  . rw[Bk _ e] at hx;exact .inr ⟨e,hx⟩
 have g3:∀ i,(i=0\/∃ b,N0 i=some b)->addV V id b i=V0 i:=fun i hi=>by
  simp only[addV,Vn (ne0 i hi)];exact m.ext i hi
 refine⟨by rw[Bk _ (Wi hid)];exact m.n0,g3,?_,?_,?_,?_⟩
 . intro i c hc hd;rw[Bk _ (ne0 i (.inr ⟨c,hc⟩))];exact m.keep i c hc hd
 ·intro i c hc hn;rcases cs i c hc with ⟨e1,e2⟩|⟨g0,gd⟩
  ·subst e1;subst e2
   exact⟨hv,hlo,hhi,hr,hne,by simp only[addV,Ws,hv,BR m.ext hlo.1,BR m.ext hhi.1]⟩
  . obtain⟨h1,h2,h3,h4,h5,h6⟩:=m.fresh i c gd hn;exact⟨h1,h2,h3,h4,h5,by simp only[addV,Vn g0];exact h6⟩
 ·intro i hd;obtain⟨hT,c,hc,h1,h2,h3,h4,h5,h6⟩:=m.dn i hd;have g1:∀ e,midE n lev N0 N x y e->midE n lev N0 (addN N id b) x y e/\ef (addV V id b) e=ef V e:=by
   rintro e (hl|⟨d,g4,ga,g9⟩)
   . exact⟨.inl hl,by rw[BR g3 hl.1,BR m.ext hl.1]⟩
   ·have g0:e/2≠id:=by rintro e';rw[e',hf] at g4;cases g4
    refine⟨.inr ⟨d,by rw[Bk _ g0];exact g4,ga,g9⟩,?_⟩;funext ρ;simp only[ef,addV,Vn g0]
  have g7:i≠id:=ne0 i (.inr (by obtain⟨q,hq,_⟩:=hT;exact⟨q,hq⟩));exact⟨hT,c,by rw[Bk _ g7];exact hc,h1,(g1 _ h2).1,(g1 _ h3).1,h4,h5,by rw[(g1 _ h2).2,(g1 _ h3).2];exact h6⟩
 ·intro i j c hi hj gc ti tj;rcases cs i c hi with ⟨e1,e2⟩|⟨_,g5⟩
  ·rcases cs j c hj with ⟨e3,_⟩|⟨_,g2⟩
   . rw[e1,e3]
   . subst e2;exact absurd g2 (hnew j tj)
  ·rcases cs j c hj with ⟨_,e2⟩|⟨_,g2⟩
   . subst e2;exact absurd g5 (hnew i ti)
   . exact m.xu i j c g5 g2 gc ti tj
def setN (N:Nat->Option BN)(i:Nat)(b:BN):Nat->Option BN:=fun j=>if j=i then some b else N j
theorem B4.turn (m:B4 n lev N0 V0 x y done N V)(hxy:x≠y)(hT:Turns N0 x y i)(hlo:midE n lev N0 N x y lo)(hhi:midE n lev N0 N x y hi)(hr:hi%2=0)(hne:lo≠hi)
 (hV:V0 i=iteF y (ef V hi) (ef V lo)):B4 n lev N0 V0 x y (fun j=>done j\/j=i) (setN N i ⟨y,lo,hi⟩) V:=by
 obtain⟨b0,g3,gf,ge⟩:=hT;have hT:Turns N0 x y i:=⟨b0,g3,gf,ge⟩;have g9:i≠0:=by
  rintro rfl;obtain⟨b',g4⟩:=m.has g3;rw[m.n0] at g4;cases g4
 have cs:∀ j c,setN N i ⟨y,lo,hi⟩ j=some c->(j=i/\c=⟨y,lo,hi⟩)\/(j≠i/\N j=some c):=by
  intro j c hx
  by_cases e:j=i
  . subst e;simp only[setN,Ws,VY] at hx;exact .inl ⟨rfl,hx.symm⟩
  . simp only[setN,Vn e] at hx;exact .inr ⟨e,hx⟩
 have g0:∀ e,midE n lev N0 N x y e->midE n lev N0 (setN N i ⟨y,lo,hi⟩) x y e:=by
  rintro e (hl|⟨d,gc,ga,g1⟩)
  . exact .inl hl
  ·have g5:e/2≠i:=by rintro e';rw[e'] at g1;exact g1 hT
   exact .inr ⟨d,by simp only[setN,Vn g5];exact gc,ga,g1⟩
 refine⟨by simp only[setN,Vn (Wi g9)];exact m.n0,m.ext,?_,?_,?_,?_⟩
 ·intro j c hc hd;have g7:j≠i:=fun e=>hd (.inr e)
  simp only[setN,Vn g7];exact m.keep j c hc (fun h=>hd (.inl h))
 ·intro j c hc hn;rcases cs j c hc with ⟨e1,_⟩|⟨_,gd⟩
  . subst e1;rw[g3] at hn;cases hn
  . exact m.fresh j c gd hn
 ·intro j hd
  by_cases e:j=i
  . subst e;exact⟨hT,⟨y,lo,hi⟩,by simp only[setN,Ws],rfl,g0 _ hlo,g0 _ hhi,hr,hne,hV⟩
  . obtain⟨gg,c,hc,h1,h2,h3,h4,h5,h6⟩:=m.dn j (hd.resolve_right e);exact⟨gg,c,by simp only[setN,Vn e];exact hc,h1,g0 _ h2,g0 _ h3,h4,h5,h6⟩
 ·intro j k c hj hk g2 tj tk;rcases cs j c hj with ⟨e1,e2⟩|⟨_,g8⟩
  . subst e2;exact absurd g2.symm hxy
  ·rcases cs k c hk with ⟨e1,e2⟩|⟨_,g6⟩
   . subst e2;exact absurd g2.symm hxy
   . exact m.xu j k c g8 g6 g2 tj tk
theorem DX (lev:Nat->Nat)(x y:Nat):B0 lev x y x=lev y:=by simp[B0]
theorem DY (lev:Nat->Nat)(h:x≠y):B0 lev x y y=lev x:=by simp[B0,Wi h]
theorem Fc (lev:Nat->Nat){v:Nat}(hx:v≠x)(hy:v≠y):B0 lev x y v=lev v:=by simp[B0,hx,hy]
theorem R8 (hxl:lev x<lev y)(hl:lowE n lev N0 y e){c:BN}(hc:N0 (e/2)=some c):c.v≠x/\c.v≠y:=by
 have:=hl.2;simp only[lvE,hc] at this;exact⟨by rintro e;rw[e] at this;omega,by rintro e;rw[e] at this;omega⟩
theorem B4.final (h:Dag n lev N0 V0)(hx:x<n)(hy:y<n)(hl:lev y=lev x+1)(m:B4 n lev N0 V0 x y done N V)(hall:∀ i,Turns N0 x y i->done i):Dag n (B0 lev x y) N V:=by
 have g5:x≠y:=by rintro rfl;omega
 have gk:lev x<lev y:=by omega
 have kinds:∀ i b,N i=some b->(N0 i=none/\b.v=x/\lowE n lev N0 y b.lo/\lowE n lev N0 y b.hi/\b.hi%2=0/\b.lo≠b.hi/\V i=iteF x (ef V0 b.hi) (ef V0 b.lo)) \/
  (Turns N0 x y i/\b.v=y/\midE n lev N0 N x y b.lo/\midE n lev N0 N x y b.hi/\b.hi%2=0/\b.lo≠b.hi/\V0 i=iteF y (ef V b.hi) (ef V b.lo)) \/
  (N0 i=some b/\¬ Turns N0 x y i):=by
  intro i b hb;cases e:N0 i with
  | none=>exact .inl ⟨rfl,m.fresh i b hb e⟩
  | some c =>
    right
    by_cases hd:done i
    . obtain⟨hT,b',g4,rest⟩:=m.dn i hd;obtain rfl:b'=b:=Xc (g4.symm.trans hb);exact .inl ⟨hT,rest⟩
    . have:=m.keep i c e hd;obtain rfl:c=b:=Xc (this.symm.trans hb);exact .inr ⟨rfl,fun hT=>hd (hall i hT)⟩
 have low:∀ e,lowE n lev N0 y e->okE N e/\lvE n (B0 lev x y) N e=lvE n lev N0 e/\ef V e=ef V0 e:=by
  intro e he;refine⟨?_,?_,BR m.ext he.1⟩
  ·rcases he.1 with h0|⟨c,hc⟩
   . exact .inl h0
   . obtain⟨b',g4⟩:=m.has hc;exact .inr ⟨b',g4⟩
  ·rcases he.1 with h0|⟨c,hc⟩
   . simp only[lvE,h0,m.n0,h.none0]
   ·have gf:=R8 gk he hc;have gj:¬ done (e/2):=fun hd=>by
     obtain⟨⟨q,hq,gc,_⟩,_⟩:=m.dn _ hd;rw[hc] at hq;cases hq;exact gf.1 gc
    simp only[lvE,m.keep _ _ hc gj,hc,Fc lev gf.1 gf.2]
 have mid:∀ e,midE n lev N0 N x y e->okE N e/\lev x<lvE n (B0 lev x y) N e:=by
  rintro e (he|⟨c,hc,g9,_⟩)
  . obtain⟨h1,h2,_⟩:=low e he;exact⟨h1,by rw[h2];have:=he.2;omega⟩
  . exact⟨.inr ⟨c,hc⟩,by simp only[lvE,hc,g9,DX];omega⟩
 have old:∀ i b e,N0 i=some b->¬ Turns N0 x y i->(e=b.lo\/e=b.hi)->okE N e/\B0 lev x y b.v<lvE n (B0 lev x y) N e/\ef V e=ef V0 e:=by
  intro i b e hb g0 he;have ho:okE N0 e:=by rcases he with rfl|rfl;exact h.okLo _ _ hb;exact h.okHi _ _ hb
  have g1:lev b.v<lvE n lev N0 e:=by rcases he with rfl|rfl;exact h.lvLo _ _ hb;exact h.lvHi _ _ hb
  have gi:b.v=x->¬ isV N0 y e:=fun g8 gh=>g0 ⟨b,hb,g8,by rcases he with rfl|rfl;exact .inl gh;exact .inr gh⟩
  refine⟨?_,?_,BR m.ext ho⟩
  ·rcases ho with h0|⟨c,hc⟩
   . exact .inl h0
   . obtain⟨b',g4⟩:=m.has hc;exact .inr ⟨b',g4⟩
  ·by_cases g8:b.v=x
   ·have g7:lowE n lev N0 y e:=by
     refine⟨ho,?_⟩;rw[g8] at g1;rcases ho with h0|⟨c,hc⟩
     . simp only[lvE,h0,h.none0] at g1 ⊢;exact h.lt y hy
     ·simp only[lvE,hc] at g1 ⊢;have:c.v≠y:=fun e'=>gi g8 ⟨c,hc,e'⟩
      have h2:lev c.v≠lev y:=fun e'=>this (h.inj _ _ (h.var _ _ hc) hy e')
      omega
    rw[(low e g7).2.1,g8,DX];exact g7.2
   ·by_cases gg:b.v=y
    . have g7:lowE n lev N0 y e:=⟨ho,by rw[gg] at g1;exact g1⟩;rw[(low e g7).2.1,gg,DY lev g5];have:=g7.2;omega
    ·rw[Fc lev g8 gg];rcases ho with h0|⟨c,hc⟩
     . simp only[lvE,h0,m.n0];exact h.lt _ (h.var _ _ hb)
     ·simp only[lvE,hc] at g1;have gl:=h.var _ _ hc
      by_cases hd:done (e/2)
      ·obtain⟨⟨q,hq,gc,_⟩,b',g4,hb'y,_⟩:=m.dn _ hd;rw[hc] at hq;cases hq
       simp only[lvE,g4,hb'y,DY lev g5];rw[gc] at g1;exact g1
      ·simp only[lvE,m.keep _ _ hc hd]
       by_cases g9:c.v=x
       . rw[g9,DX];rw[g9] at g1;omega
       ·by_cases ge:c.v=y
        ·rw[ge,DY lev g5];rw[ge] at g1;have h2:lev b.v≠lev x:=fun e'=>g8 (h.inj _ _ (h.var _ _ hb) hx e')
         omega
        . rw[Fc lev g9 ge];exact g1
 refine⟨fun ρ=>by rw[m.ext 0 (.inl rfl)];exact h.one ρ,m.n0,?_,?_,?_,?_,?_,?_,?_,?_,?_,?_,?_⟩
 ·intro i b hb;rcases kinds i b hb with ⟨_,hv,_⟩|⟨_,hv,_⟩|⟨h0,_⟩
  . rw[hv];exact hx
  . rw[hv];exact hy
  . exact h.var _ _ h0
 ·intro u v hu hv he;have hs:∀ u,u<n->B0 lev x y u=lev (if u=x then y else if u=y then x else u):=by
   intro u _;simp only[B0];(split;· rfl);split<;>rfl
  have hb:∀ u,u<n->(if u=x then y else if u=y then x else u)<n:=by
   intro u hu;(split;· exact hy);(split;· exact hx);exact hu
  rw[hs u hu,hs v hv] at he;have:=h.inj _ _ (hb u hu) (hb v hv) he
  by_cases a:u=x
  ·rw[Vs a] at this
   by_cases b:v=x
   . rw[a,b]
   ·rw[Vn b] at this
    by_cases c:v=y
    . rw[Vs c] at this;exact absurd this.symm g5
    . rw[Vn c] at this;exact absurd this.symm c
  ·rw[Vn a] at this
   by_cases b:v=x
   ·rw[Vs b] at this
    by_cases c:u=y
    . rw[Vs c] at this;exact absurd this g5
    . rw[Vn c] at this;exact absurd this c
   ·rw[Vn b] at this
    by_cases c:u=y
    ·rw[Vs c] at this
     by_cases d:v=y
     . rw[c,d]
     . rw[Vn d] at this;exact absurd this.symm b
    ·rw[Vn c] at this
     by_cases d:v=y
     . rw[Vs d] at this;exact absurd this a
     . rw[Vn d] at this;exact this
 ·intro v hv;simp only[B0];split
  . exact h.lt y hy
  ·split
   . exact h.lt x hx
   . exact h.lt v hv
 ·intro i b hb;rcases kinds i b hb with ⟨_,_,g2,_⟩|⟨_,_,g2,_⟩|⟨h0,g0⟩
  . exact(low _ g2).1
  . exact(mid _ g2).1
  . exact(old i b b.lo h0 g0 (.inl rfl)).1
 ·intro i b hb;rcases kinds i b hb with ⟨_,_,_,g3,_⟩|⟨_,_,_,g3,_⟩|⟨h0,g0⟩
  . exact(low _ g3).1
  . exact(mid _ g3).1
  . exact(old i b b.hi h0 g0 (.inr rfl)).1
 ·intro i b hb;rcases kinds i b hb with ⟨_,hv,g2,_⟩|⟨_,hv,g2,_⟩|⟨h0,g0⟩
  . rw[hv,DX,(low _ g2).2.1];exact g2.2
  . rw[hv,DY lev g5];exact(mid _ g2).2
  . exact(old i b b.lo h0 g0 (.inl rfl)).2.1
 ·intro i b hb;rcases kinds i b hb with ⟨_,hv,_,g3,_⟩|⟨_,hv,_,g3,_⟩|⟨h0,g0⟩
  . rw[hv,DX,(low _ g3).2.1];exact g3.2
  . rw[hv,DY lev g5];exact(mid _ g3).2
  . exact(old i b b.hi h0 g0 (.inr rfl)).2.1
 ·intro i b hb;rcases kinds i b hb with ⟨_,_,_,_,hr,_⟩|⟨_,_,_,_,hr,_⟩|⟨h0,_⟩
  . exact hr
  . exact hr
  . exact h.reg _ _ h0
 ·intro i b hb;rcases kinds i b hb with ⟨_,_,_,_,_,gd,_⟩|⟨_,_,_,_,_,gd,_⟩|⟨h0,_⟩
  . exact gd
  . exact gd
  . exact h.ne _ _ h0
 ·intro i j b hi hj;have yFn:∀ i,N i=some b->b.v=y->(∃ c,N0 i=some c)/\V0 i=iteF y (ef V b.hi) (ef V b.lo):=by
   intro i hi hv;rcases kinds i b hi with ⟨_,g6,_⟩|⟨⟨q,hq,_⟩,_,_,_,_,_,hV⟩|⟨h0,g0⟩
   . rw[hv] at g6;exact absurd g6.symm g5
   . exact⟨⟨q,hq⟩,hV⟩
   . refine⟨⟨b,h0⟩,?_⟩;rw[(old i b b.lo h0 g0 (.inl rfl)).2.2,(old i b b.hi h0 g0 (.inr rfl)).2.2,<- hv];exact h.eqn _ _ h0
  have xT:b.v=x->∀ i,N i=some b->¬ Turns N0 x y i:=by
   intro hv i hi hT;obtain⟨_,b',g4,hb'y,_⟩:=m.dn i (hall i hT);rw[hi] at g4;cases g4
   rw[hv] at hb'y;exact g5 hb'y
  by_cases g6:b.v=x
  . exact m.xu i j b hi hj g6 (xT g6 i hi) (xT g6 j hj)
  ·by_cases ga:b.v=y
   ·obtain⟨⟨c,hc⟩,e1⟩:=yFn i hi ga;obtain⟨⟨d,hd⟩,e2⟩:=yFn j hj ga;have:2*i=2*j:=by
     refine h.canon (Dp hc) (Dp hd) ?_;funext ρ;have h1:2*i/2=i:=by omega
     have h2:2*j/2=j:=by omega
     have h3:2*i%2=0:=by omega
     have h4:2*j%2=0:=by omega
     simp only[ef,h1,h2,h3,h4,e1,e2]
    omega
   ·have o:∀ i,N i=some b->N0 i=some b:=by
     intro i hi;rcases kinds i b hi with ⟨_,hv,_⟩|⟨_,hv,_⟩|⟨h0,_⟩
     . exact absurd hv g6
     . exact absurd hv ga
     . exact h0
    exact h.uniq i j b (o i hi) (o j hj)
 ·intro i b hb;rcases kinds i b hb with ⟨_,hv,g2,g3,_,_,hV⟩|⟨hT,hv,_,_,_,_,hV⟩|⟨h0,g0⟩
  . rw[hV,hv,(low _ g2).2.2,(low _ g3).2.2]
  . obtain⟨q,hq,_⟩:=hT;rw[m.ext i (.inr ⟨q,hq⟩),hV,hv]
  . rw[m.ext i (.inr ⟨b,h0⟩),(old i b b.lo h0 g0 (.inl rfl)).2.2,(old i b b.hi h0 g0 (.inr rfl)).2.2];exact h.eqn _ _ h0
end
open Go.RowKit Go.Shelf
structure TN where
 n:RN
 ll:Nat
 lh:Nat
 hl:Nat
 hh:Nat
variable {ts:List TN}
def tnV (t:TN):List Value:=rnV t.n++[Iv t.ll,Iv t.lh,Iv t.hl,Iv t.hh]
def tnOf (d:Ae)(y:Nat)(i:Nat):TN:=⟨d.pool.nd i,(cofs d (d.pool.nd i).lo y).1,(cofs d (d.pool.nd i).lo y).2,(cofs d (d.pool.nd i).hi y).1,(cofs d (d.pool.nd i).hi y).2⟩
def Cp (d:Ae)(y:Nat)(i:Nat):Bool:=decide ((tnOf d y i).ll≠(tnOf d y i).lh\/(tnOf d y i).hl≠(tnOf d y i).hh)
theorem L6 (hk:Ak d V)(e y:Nat):(cofs d e y).1≠(cofs d e y).2↔isV (Aa d) y e:=by
 unfold cofs isV;cases hb:Aa d (e/2) with
 | none=>simp
 | some b =>
   by_cases h:b.v=y
   ·have h1:(b.v:Int)=(y:Int):=by omega
    simp only[h1,Ws];constructor
    . intro _;exact⟨b,rfl,h⟩
    . intro _;exact FK (hk.dag.ne _ _ hb)
   ·have h1:¬ (b.v:Int)=(y:Int):=by omega
    simp only[h1,if_false];constructor
    . intro hh;exact(hh rfl).elim
    . rintro⟨c,hc,hv⟩;cases hc;exact(h hv).elim
theorem IL (hk:Ak d V)(hb:Aa d i=some b)(hx:b.v=x):Cp d y i=true↔Turns (Aa d) x y i:=by
 obtain⟨_,_,he⟩:=BM hb;have g0:bnOf (d.pool.nd i)=b:=by rw[<- (BM hb).2.1];exact he
 have e1:(d.pool.nd i).lo=b.lo:=by rw[<- g0];rfl
 have e2:(d.pool.nd i).hi=b.hi:=by rw[<- g0];rfl
 unfold Cp tnOf;rw[WB,e1,e2,L6 hk,L6 hk];constructor
 . intro h;exact⟨b,hb,hx,h⟩
 . rintro⟨c,hc,_,h⟩;rw[hb] at hc;cases hc;exact h
noncomputable def rkSw (n:Nat)(lev:Nat->Nat)(N0:Nat->Option BN)(x y:Nat)(N:Nat->Option BN)(i:Nat):Nat :=
 open Classical in if Turns N0 x y i then 2 * (n - lev x) else match N i with
  | none=>0
  | some b=>if b.v=x then 2*(n-lev x)-1 else 2*(n-lev b.v)
section
variable {lev:Nat->Nat}{N0:Nat->Option BN}{done:Nat->Prop}
theorem Gn (h:Turns N0 x y i):rkSw n lev N0 x y N i=2*(n-lev x):=by unfold rkSw;rw[Vs h]
theorem Fe (h:¬ Turns N0 x y i)(hb:N i=some b)(hx:b.v=x):rkSw n lev N0 x y N i=2*(n-lev x)-1:=by unfold rkSw;rw[Vn h,hb];simp[hx]
theorem L7 (h:¬ Turns N0 x y i)(hb:N i=some b)(hx:b.v≠x):rkSw n lev N0 x y N i=2*(n-lev b.v):=by unfold rkSw;rw[Vn h,hb];simp[hx]
theorem IM (hb:N0 i=some b)(h:Turns N0 x y i):b.v=x:=by
 obtain⟨c,hc,hx,_⟩:=h;rw[hb] at hc;cases hc;exact hx
theorem IN (m:B4 n lev N0 V0 x y done N V){c0 c:BN}(h0:N0 (e/2)=some c0)(hc:N (e/2)=some c) :
 (Turns N0 x y (e/2)/\c0.v=x/\rkSw n lev N0 x y N (e/2)=2*(n-lev x))\/(¬ Turns N0 x y (e/2)/\c=c0/\rkSw n lev N0 x y N (e/2)<=2*(n-lev c0.v)/\(c0.v=x->rkSw n lev N0 x y N (e/2)=2*(n-lev x)-1)):=by
 by_cases hT:Turns N0 x y (e/2)
 . exact .inl ⟨hT,IM h0 hT,Gn hT⟩
 ·have hk:=m.keep _ _ h0 (fun hd=>hT (m.dn _ hd).1);rw[hc] at hk;cases hk;refine .inr ⟨hT,rfl,?_,fun hx=>Fe hT hc hx⟩
  by_cases hx:c0.v=x
  . rw[Fe hT hc hx,hx];omega
  . rw[L7 hT hc hx];exact Vo _
theorem E2 (m:B4 n lev N0 V0 x y done N V)(h:okE N0 e):okE N e:=by
 rcases h with h|⟨c,hc⟩
 . exact .inl h
 . obtain⟨b,hb⟩:=m.has hc;exact .inr ⟨b,hb⟩
theorem L8 (m:B4 n lev N0 V0 x y done N V)(h:midE n lev N0 N x y e):okE N e:=by
 rcases h with h|⟨c,hc,_⟩
 . exact E2 m h.1
 . exact .inr ⟨c,hc⟩
theorem Ff {c:BN}(h:N0 (e/2)=some c):lvE n lev N0 e=lev c.v:=by unfold lvE;rw[h]
theorem L9 (h:Dag n lev N0 V0)(hx:x<n)(hl:lev y=lev x+1)(m:B4 n lev N0 V0 x y done N V){c:BN}(he:lowE n lev N0 y e)(hc:N (e/2)=some c):rkSw n lev N0 x y N (e/2)+3<=2*(n-lev x):=by
 have g1:=h.lt x hx;rcases he.1 with h0|⟨c0,g0⟩
 . rw[h0,m.n0] at hc;cases hc
 ·have h1:=he.2;rw[Ff g0] at h1;have h2:=h.lt _ (h.var _ _ g0);rcases IN m g0 hc with ⟨_,hv,_⟩|⟨_,_,h3,_⟩
  . rw[hv] at h1;omega
  . omega
theorem LC (h:Dag n lev N0 V0)(hx:x<n)(hl:lev y=lev x+1)(m:B4 n lev N0 V0 x y done N V){c:BN}(he:midE n lev N0 N x y e)(hc:N (e/2)=some c):rkSw n lev N0 x y N (e/2)+1<=2*(n-lev x):=by
 have g1:=h.lt x hx;rcases he with he|⟨c',g0,hv,hT⟩
 . have:=L9 h hx hl m he hc;omega
 . rw[Fe hT g0 hv];omega
theorem R9 (h:Dag n lev N0 V0)(hx:x<n)(hl:lev y=lev x+1)(m:B4 n lev N0 V0 x y done N V):Acy N (rkSw n lev N0 x y N):=by
 have g6:=h.lt x hx;have edge:∀ i b e,N i=some b->(e=b.lo\/e=b.hi)->okE N e/\∀ c,N (e/2)=some c->rkSw n lev N0 x y N (e/2)<rkSw n lev N0 x y N i:=by
  intro i b e hb he;cases h0:N0 i with
  | none =>
    obtain⟨hv,h1,h2,_⟩:=m.fresh i b hb h0;have g2:lowE n lev N0 y e:=by rcases he with rfl|rfl;exact h1;exact h2
    have hT:¬ Turns N0 x y i:=fun⟨q,hq,_⟩=>by rw[h0] at hq;cases hq
    refine⟨E2 m g2.1,fun c hc=>?_⟩;have:=L9 h hx hl m g2 hc;rw[Fe hT hb hv];omega
  | some b0 =>
    by_cases hd:done i
    ·obtain⟨hT,b',g4,_,h1,h2,_⟩:=m.dn i hd;rw[hb] at g4;cases g4
     have hm:midE n lev N0 N x y e:=by rcases he with rfl|rfl;exact h1;exact h2
     refine⟨L8 m hm,fun c hc=>?_⟩;have:=LC h hx hl m hm hc;rw[Gn hT];omega
    ·have hk:=m.keep i b0 h0 hd;rw[hb] at hk;cases hk
     have ho:okE N0 e:=by rcases he with rfl|rfl;exact h.okLo _ _ h0;exact h.okHi _ _ h0
     have g0:lev b.v<lvE n lev N0 e:=by rcases he with rfl|rfl;exact h.lvLo _ _ h0;exact h.lvHi _ _ h0
     refine⟨E2 m ho,fun c hc=>?_⟩;have g9:=h.lt _ (h.var _ _ h0);rcases ho with hz|⟨c0,g3⟩
     . rw[hz,m.n0] at hc;cases hc
     ·rw[Ff g3] at g0;have g8:=h.lt _ (h.var _ _ g3);have hi:(Turns N0 x y i/\rkSw n lev N0 x y N i=2*(n-lev x)/\b.v=x)\/(¬ Turns N0 x y i/\b.v=x/\rkSw n lev N0 x y N i=2*(n-lev x)-1)\/(¬ Turns N0 x y i/\b.v≠x/\rkSw n lev N0 x y N i=2*(n-lev b.v)):=by
       by_cases hT:Turns N0 x y i
       . exact .inl ⟨hT,Gn hT,IM h0 hT⟩
       ·by_cases g1:b.v=x
        . exact .inr (.inl ⟨hT,g1,Fe hT hb g1⟩)
        . exact .inr (.inr ⟨hT,g1,L7 hT hb g1⟩)
      rcases IN m g3 hc with ⟨_,g5,hr⟩|⟨_,_,hr,g7⟩
      ·rw[hr];rw[g5] at g0;rcases hi with ⟨_,_,hv⟩|⟨_,hv,_⟩|⟨_,_,h2⟩
       . rw[hv] at g0;omega
       . rw[hv] at g0;omega
       . rw[h2];omega
      ·rcases hi with ⟨_,h2,hv⟩|⟨_,hv,h2⟩|⟨_,hv,h2⟩
       . rw[h2];rw[hv] at g0;omega
       . rw[h2];rw[hv] at g0;omega
       . rw[h2];omega
 exact⟨m.n0,fun i b hb=>(edge i b _ hb (.inl rfl)).1,fun i b hb=>(edge i b _ hb (.inr rfl)).1,fun i b c hb hc=>(edge i b _ hb (.inl rfl)).2 c hc,fun i b c hb hc=>(edge i b _ hb (.inr rfl)).2 c hc⟩
end
theorem RA {α:Type}[DecidableEq α]{l:List α}(hn:l.Nodup){κ:α}(hk:κ∈l){p q:α->Bool}(hp:p κ=false)(hq:∀ a,q a=(p a||decide (a=κ))):(l.filter q).length=(l.filter p).length+1:=by
 induction l with
 | nil=>cases hk
 | cons a l ih =>
   rw[Xm] at hn;have g0:=hq a
   by_cases e:a=κ
   ·subst e;have g2:∀ b∈l,b≠a:=fun b hb e=>hn.1 (e ▸ hb)
    have hl:l.filter q=l.filter p:=List.filter_congr fun b hb=>by rw[hq b];simp[g2 b hb]
    simp only[List.filter_cons,g0,hp,hl];simp
   ·have g3:κ∈l:=by
     rcases VX.1 hk with h|h
     . exact(e h.symm).elim
     . exact h
    have:=ih hn.2 g3;have g1:q a=p a:=by rw[g0];simp[e]
    simp only[List.filter_cons,g1];split
    . simp[this]
    . exact this
structure A4 (d0:Ae)(V0:Nat->BF)(k x y:Nat)(Wt:List (Nat×Nat))(E:Nat->Int)(done:Nat->Prop)(d:Ae)(V:Nat->BF):Prop where
 mid:B4 d0.vars.length (levN d0) (Aa d0) V0 x y done (Aa d) V
 vars:d.vars=(Be d0 k).vars
 level:d.level=(Be d0 k).level
 room:d.pool.room=d0.pool.room
 ext:Aj d=Aj d0
 live:AA d E
 tabO:∀ v,v<d0.vars.length->v≠x->∀ lo hi id,d.tab v (lo,hi)=some id↔Aa d id=some ⟨v,lo,hi⟩
 tabX:∀ lo hi id,d.tab x (lo,hi)=some id↔Aa d id=some ⟨x,lo,hi⟩/\¬ Turns (Aa d0) x y id
 clen:d.counts.length<=1048578
 pos:∀ i,Turns (Aa d0) x y i->0<Ai d i
 many:d.pool.many=d0.pool.many+(Wt.filter fun κ=>(d.tab x κ).isSome).length
section
variable {done:Nat->Prop}
theorem A4.has0 (m:A4 d0 V0 k x y Wt E done d V)(h:Aa d i=none):Aa d0 i=none:=by
 cases e:Aa d0 i with
 | none=>rfl
 | some c=>obtain⟨b',g0⟩:=m.mid.has e;rw[h] at g0;cases g0
theorem A4.add {id lo hi:Nat}(m:A4 d0 V0 k x y Wt (Aj d0) done d V)(r:DM d d' id x lo hi)(hlo:lowE d0.vars.length (levN d0) (Aa d0) y lo)(hhi:lowE d0.vars.length (levN d0) (Aa d0) y hi)(hr:hi%2=0)(hne:lo≠hi)
 (ht:d.tab x (lo,hi)=none) (hW:(lo,hi)∈Wt) (hWn:Wt.Nodup):A4 d0 V0 k x y Wt (Aj d0) done d' (addV V id ⟨x,lo,hi⟩):=by
 have hid:id≠0:=by have:=r.pos;omega
 have g2:∀ i,¬ Turns (Aa d0) x y i->Aa d i≠some ⟨x,lo,hi⟩:=fun i hT e=>by rw[(m.tabX lo hi i).2 ⟨e,hT⟩] at ht;cases ht
 have g6:=m.mid.add r.none hid rfl hlo hhi hr hne g2;have h0:=m.has0 r.none;have g4:¬ Turns (Aa d0) x y id:=fun⟨q,hq,_⟩=>by rw[h0] at hq;cases hq
 have g3:Aj d'=Aj d0:=by
  rw[r.ext];funext i
  by_cases e:i=id
  . subst e;simp[Ej h0]
  . simp only[Vn e,m.ext]
 have g0:=r.live;rw[g3] at g0;refine⟨by rw[r.nodes];exact g6,r.vars.trans m.vars,r.level.trans m.level,r.room.trans m.room,g3,g0,fun v hv g1 lo' g5 i=>?_,fun lo' g5 i=>?_,r.clen,fun i hT=>?_,?_⟩
 ·rw[r.tab,r.nodes];dsimp only;rw[Vn g1,m.tabO v hv g1]
  by_cases e4:i=id
  ·subst e4;rw[Cc,r.none];constructor
   . intro e5;cases e5
   . intro e5;cases e5;exact absurd rfl g1
  . rw[Bk _ e4]
 ·rw[r.tab,r.nodes];dsimp only;rw[Vs rfl];unfold putF
  by_cases e2:(lo',g5)=(lo,hi)
  ·cases e2;rw[Vs rfl];constructor
   . intro e3;cases e3;rw[Cc];exact⟨rfl,g4⟩
   ·rintro⟨e3,e5⟩
    by_cases e4:i=id
    . rw[e4]
    . rw[Bk _ e4] at e3;exact absurd e3 (g2 i e5)
  ·rw[Vn e2,m.tabX]
   by_cases e4:i=id
   ·subst e4;rw[Cc,r.none];constructor
    . rintro⟨e5,_⟩;cases e5
    . rintro⟨e5,_⟩;cases e5;exact absurd rfl e2
   . rw[Bk _ e4]
 . rw[r.cnt];unfold setC;rw[Vn (fun e=>g4 (by rw[<- e];exact hT))];exact m.pos i hT
 ·rw[r.many,m.many];have e1:(Wt.filter fun κ=>(d'.tab x κ).isSome).length=(Wt.filter fun κ=>(d.tab x κ).isSome).length+1:=by
   refine RA hWn hW (by rw[ht];rfl) fun κ=>?_
   rw[r.tab];dsimp only;rw[Vs rfl];unfold putF
   by_cases e:κ=(lo,hi)
   . simp[e]
   . simp[e]
  rw[e1];omega
theorem A4.counts {E':Nat->Int}{cs:List Nat}{dd mm:Nat}(m:A4 d0 V0 k x y Wt E done d V)(hl:AA (d.cd cs dd) E')(hlen:cs.length=d.counts.length)(hsame:∀ i,mm<=rkSw d0.vars.length (levN d0) (Aa d0) x y (Aa d) i->cs.getD i 0=d.counts.getD i 0)(hm:mm<=2*(d0.vars.length-levN d0 x)) :
 A4 d0 V0 k x y Wt E' done (d.cd cs dd) V :=
 ⟨m.mid,m.vars,m.level,m.room,m.ext,hl,m.tabO,m.tabX,by show cs.length<=_;rw[hlen];exact m.clen,fun i hT=>by
  have:=hsame i (by rw[Gn hT];exact hm)
  show 0<cs.getD i 0
  rw[this];exact m.pos i hT,m.many⟩
theorem A4.fresh_y (m:A4 d0 V0 k x y Wt E done d V)(hk:Dag d0.vars.length (levN d0) (Aa d0) V0)(hxy:x≠y)(hy:y<d0.vars.length)(hT:Turns (Aa d0) x y i)(hd:¬ done i)(hV:V0 i=iteF y (ef V hi) (ef V lo)):d.tab y (lo,hi)=none:=by
 cases e:d.tab y (lo,hi) with
 | none=>rfl
 | some j =>
   exfalso;have hj:=(m.tabO y hy (Wi hxy) lo hi j).1 e;obtain⟨b,hb,g3,g6⟩:=hT;have same:∀ j',(∃ c,Aa d0 j'=some c)->V0 j'=V0 i->j'=i:=by
    rintro j' ⟨c,hc⟩ g4;have:=hk.canon (Dp hc) (Dp hb) (by funext ρ;simp only[ef];rw[show 2*j'/2=j' by omega,show 2*i/2=i by omega,g4,show 2*j'%2=0 by omega,show 2*i%2=0 by omega]);omega
   by_cases g0:done j
   . obtain⟨⟨q,hq,g5,_⟩,c,hc,_,_,_,_,_,g1⟩:=m.mid.dn j g0;rw[hj] at hc;cases hc;have:=same j ⟨q,hq⟩ (g1.trans hV.symm);rw[this] at g0;exact hd g0
   ·cases h0:Aa d0 j with
    | none =>
      have:=(m.mid.fresh j _ hj h0).1;exact hxy this.symm
    | some c =>
      have g2:=m.mid.keep j c h0 g0;rw[hj] at g2;cases g2;have g1:V0 j=iteF y (ef V0 hi) (ef V0 lo):=hk.eqn _ _ h0;have e1:=BR m.mid.ext (hk.okLo _ _ h0);have e2:=BR m.mid.ext (hk.okHi _ _ h0);dsimp only at e1 e2;rw[<- e1,<- e2] at g1;have:=same j ⟨_,h0⟩ (g1.trans hV.symm);subst this;rw[hb] at h0;cases h0;exact hxy g3.symm
end
theorem LD {v:Nat}(h:V id=iteF v (ef V (eflip hi (eneg hi))) (ef V (eflip lo (eneg hi)))):ef V (eflip (2*id) (eneg hi))=iteF v (ef V hi) (ef V lo):=by
 funext ρ;rw[C2];have e0:ef V (2*id) ρ=V id ρ:=by unfold ef;rw[show 2*id/2=id by omega,show 2*id%2=0 by omega];simp
 rw[e0,h];unfold iteF;split<;>rw[C2]<;>cases eneg hi<;>simp
section
variable {done:Nat->Prop}
theorem A4.valX (m:A4 d0 V0 k x y Wt E done d V)(hk:Dag d0.vars.length (levN d0) (Aa d0) V0){a b:Nat}(hb:Aa d id=some ⟨x,a,b⟩)(hT:¬ Turns (Aa d0) x y id)(ha:lowE d0.vars.length (levN d0) (Aa d0) y a)(hbb:lowE d0.vars.length (levN d0) (Aa d0) y b):V id=iteF x (ef V b) (ef V a):=by
 have e1:=BR m.mid.ext ha.1;have e2:=BR m.mid.ext hbb.1;rw[e1,e2];cases h0:Aa d0 id with
 | none=>exact(m.mid.fresh id _ hb h0).2.2.2.2.2
 | some c =>
   have g0:=m.mid.keep id c h0 (fun hd=>hT (m.mid.dn _ hd).1);rw[hb] at g0;cases g0;rw[m.mid.ext id (.inr ⟨_,h0⟩)];exact hk.eqn _ _ h0
theorem D8 {lev:Nat->Nat}{b:Bool}(h:lowE n lev N y e):lowE n lev N y (eflip e b):=⟨Dq h.1,by rw[D2];exact h.2⟩
def bkey (lo hi:Nat):Nat×Nat:=(eflip lo (eneg hi),eflip hi (eneg hi))
structure CB (d0:Ae)(V0:Nat->BF)(k x y:Nat)(Wt:List (Nat×Nat))(done:Nat->Prop)(d:Ae)(V:Nat->BF)(lo hi:Nat)(r:Nat)(d':Ae)(V':Nat->BF):Prop where
 mid:A4 d0 V0 k x y Wt (Aj d0) done d' V'
 edge:midE d0.vars.length (levN d0) (Aa d0) (Aa d') x y r
 val:ef V' r=iteF x (ef V0 hi) (ef V0 lo)
 reg:hi%2=0->r%2=0
 keep:∀ e,midE d0.vars.length (levN d0) (Aa d0) (Aa d) x y e->midE d0.vars.length (levN d0) (Aa d0) (Aa d') x y e/\ef V' e=ef V e
theorem LF (id:Nat)(hi:Nat)(h:hi%2=0):eflip (2*id) (eneg hi)%2=0:=by
 unfold eneg eflip;have:(hi%2 == 1)=false:=by rw[h];rfl
 rw[this];simp
theorem RB (m:A4 d0 V0 k x y Wt (Aj d0) done d V)(hlo:lowE d0.vars.length (levN d0) (Aa d0) y lo):CB d0 V0 k x y Wt done d V lo lo lo d V :=
 ⟨m,.inl hlo,by rw[BR m.mid.ext hlo.1];funext ρ;unfold iteF;split<;>rfl,fun h=>h,fun e he=>⟨he,rfl⟩⟩
theorem RC (m:A4 d0 V0 k x y Wt (Aj d0) done d V)(hk:Dag d0.vars.length (levN d0) (Aa d0) V0)(hlo:lowE d0.vars.length (levN d0) (Aa d0) y lo)(hhi:lowE d0.vars.length (levN d0) (Aa d0) y hi)(ht:d.tab x (bkey lo hi)=some id) :
 CB d0 V0 k x y Wt done d V lo hi (eflip (2*id) (eneg hi)) d V:=by
 obtain⟨hb,hT⟩:=(m.tabX _ _ id).1 ht;refine⟨m,.inr ⟨_,by rw[Db,show 2*id/2=id by omega];exact hb,rfl,by rw[Db,show 2*id/2=id by omega];exact hT⟩,?_,LF id hi,fun e he=>⟨he,rfl⟩⟩;rw[LD (m.valX hk hb hT (D8 hlo) (D8 hhi)),BR m.mid.ext hlo.1,BR m.mid.ext hhi.1]
theorem RD (m:A4 d0 V0 k x y Wt (Aj d0) done d V)(hk:Dag d0.vars.length (levN d0) (Aa d0) V0)(hlo:lowE d0.vars.length (levN d0) (Aa d0) y lo)(hhi:lowE d0.vars.length (levN d0) (Aa d0) y hi)(hne:lo≠hi)
 (ht:d.tab x (bkey lo hi)=none) (r:DM d d' id x (bkey lo hi).1 (bkey lo hi).2) (hW:bkey lo hi∈Wt) (hWn:Wt.Nodup) :
 CB d0 V0 k x y Wt done d V lo hi (eflip (2*id) (eneg hi)) d' (addV V id ⟨x,(bkey lo hi).1,(bkey lo hi).2⟩):=by
 have hid:id≠0:=by have:=r.pos;omega
 have m':=m.add r (D8 hlo) (D8 hhi) (Ko hi) (FK hne) ht hW hWn;have hT:¬ Turns (Aa d0) x y id:=fun⟨q,hq,_⟩=>by rw[m.has0 r.none] at hq;cases hq
 have hb:Aa d' id=some ⟨x,(bkey lo hi).1,(bkey lo hi).2⟩:=by rw[r.nodes,Cc]
 refine⟨m',.inr ⟨_,by rw[Db,show 2*id/2=id by omega];exact hb,rfl,by rw[Db,show 2*id/2=id by omega];exact hT⟩,?_,LF id hi,fun e he=>?_⟩
 . rw[LD (m'.valX hk hb hT (D8 hlo) (D8 hhi)),BR m'.mid.ext hlo.1,BR m'.mid.ext hhi.1]
 ·rcases he with he|⟨c,hc,g1,g2⟩
  . exact⟨.inl he,by rw[BR m'.mid.ext he.1,BR m.mid.ext he.1]⟩
  ·have g0:e/2≠id:=by rintro e';rw[e',r.none] at hc;cases hc
   refine⟨.inr ⟨c,by rw[r.nodes,Bk _ g0];exact hc,g1,g2⟩,?_⟩;funext ρ;simp only[ef,addV,Vn g0]
theorem A4.fits (m:A4 d0 V0 k x y Wt E done d V){κ:Nat×Nat}(hW:κ∈Wt)(ht:d.tab x κ=none)(hroom:d0.pool.many+Wt.length<=d0.pool.room):d.pool.many<d.pool.room:=by
 have h1:(Wt.filter fun κ=>(d.tab x κ).isSome).length<Wt.length:=by
  rw[<- Nat.not_le];intro g0;have h2:=Wk (fun κ=>(d.tab x κ).isSome) Wt;have h3:=List.length_filter_eq_length_iff.1 (Nat.le_antisymm h2 g0);have:=h3 κ hW;rw[ht] at this;cases this
 rw[m.many,m.room];omega
end
theorem LG {done:Nat->Prop}{o:Own}(h:A2 o w sb d)(hlt:Ab o w)(m:A4 d0 V0 k x y Wt (Aj d0) done d V)
 (hk:Dag d0.vars.length (levN d0) (Aa d0) V0) (hacy:Acy (Aa d) (rkSw d0.vars.length (levN d0) (Aa d0) x y (Aa d))) (hx:x<d0.vars.length) (hvl:d.vars.length=d0.vars.length) (lo hi:Nat) (hlo:lowE d0.vars.length (levN d0) (Aa d0) y lo) (hhi:lowE d0.vars.length (levN d0) (Aa d0) y hi)
 (hkey:lo≠hi->d.tab x (bkey lo hi)=none->bkey lo hi∈Wt) (hWn:Wt.Nodup) (hroom:d0.pool.many+Wt.length<=d0.pool.room) :
 Cl 222 #[Pt sb,Iv x,Iv lo,Iv hi] w fun e w'=>∃ r:Nat,e=.returned (Iv r)/\∃ o' d' V',A2 o' w' sb d'/\Ab o' w'/\CB d0 V0 k x y Wt done d V lo hi r d' V'/\d'.vars.length=d0.vars.length/\Chg Al o o' w w':=by
 obtain⟨s,h⟩:=h;have okL:=E2 m.mid hlo.1;have okH:=E2 m.mid hhi.1;have g9:=h.edge_lt okL;have ga:=h.edge_lt okH;have g4:lo<eMax:=by unfold eMax;omega
 have g6:hi<eMax:=by unfold eMax;omega
 by_cases g8:lo=hi
 ·subst g8;have HF:Hq (∃ r:Nat,Ending.returned (Iv (lo:Nat))=.returned (Iv r)/\∃ o' d' V',A2 o' w sb d'/\Ab o' w/\CB d0 V0 k x y Wt done d V lo lo r d' V'/\d'.vars.length=d0.vars.length/\Chg Al o o' w w):=Hd ⟨lo,rfl,o,d,V,⟨s,h⟩,hlt,RB m hlo,hvl,Chg.refl _ _ _⟩;clear h hlt m hk hacy hlo hhi hkey g4 g6 g9 ga okL okH
  go_enter func222,ntmps222
  go_wp2_with fail;go_ret;exact HF.o
 have gp:((lo:Int) == hi)=false:=by simp;omega
 have hv:x<d.vars.length:=by rw[hvl];exact hx
 have g1:=Hd (fun W=>GG lo hi W g4 g6);have gc:=Hd (h.tab x (by rw[h.tlen];exact hv));obtain⟨gt,ct,gg,gl,go,gr⟩:=h.tabAt hv;obtain⟨c0,c1,c2,c3,c4,f0⟩:=cells5 h.blk;rw[gg] at c2;obtain⟨t,ht⟩:=Ex (s.ts.getD x 0);rw[<- ht] at gl gc;have gq:(x:Int)<s.ts.length:=by omega
 obtain⟨lo2,g5⟩:∃ q,q=eflip lo (eneg hi):=⟨_,rfl⟩;obtain⟨g3,g7⟩:∃ q,q=eflip hi (eneg hi):=⟨_,rfl⟩;obtain⟨ng,ge⟩:∃ q,q=eneg hi:=⟨_,rfl⟩;have g2:bkey lo hi=(lo2,g3):=by unfold bkey;rw[g5,g7]
 rw[<- g5,<- g7] at g1;cases g0:d.tab x (lo2,g3) with
 | some id =>
   have gi:=Hd (fun W (hb:Bw w W)=>GV o x t (d.tab x) lo2 g3 id W (gc.o.below hb hlt) g0);have gd:=((m.tabX _ _ id).1 g0).1;have gh:=(h.tk_lt gd).2;have gf:=Hd (fun W=>GH id (eneg hi) W (by omega));have HF:Hq (∀ W,Bw w W->∃ r:Nat,Ending.returned (Iv (eflip (2*id) (eneg hi):Nat))=.returned (Iv r)/\∃ o' d' V',A2 o' W sb d'/\Ab o' W/\CB d0 V0 k x y Wt done d V lo hi r d' V'/\d'.vars.length=d0.vars.length/\Chg Al o o' w W) :=
    Hd fun W hb=>⟨_,rfl,o,d,V,⟨s,h.below hlt hb⟩,hlt.mono hb.size,RC m hk hlo hhi (by rw[g2];exact g0),hvl,Chg.of_below hb _ _⟩
   rw[<- ge] at g1 gf HF;clear h hlt m hk hacy hlo hhi hkey g4 g6 g9 ga okL okH g0 gd gh g5 g7 ge g2 hv g8 hvl ht gg
   go_enter func222,ntmps222
   go_wp2_with fail;refine(g1.o _).mono ?_;rintro e w' ⟨rfl,rfl⟩;go_wp2_with fail;refine(gi.o _ (VA _ _)).mono ?_;rintro e w' ⟨rfl,rfl⟩;go_wp2_with fail;refine(gf.o _).mono ?_;rintro e w' ⟨rfl,rfl⟩;go_wp2_with fail;go_ret;exact HF.o _ (VA _ _)
 | none =>
   have gi:=Hd (GW o x t (d.tab x) lo2 g3 w gc.o g0);have hW:bkey lo hi∈Wt:=hkey g8 (by rw[g2];exact g0);have gm:=Hd (Km h hlt (by rw[m.ext];exact m.live) (fun i b hb=>⟨hacy.okLo i b hb,hacy.okHi i b hb⟩) x lo2 g3 hv g0 m.clen);have gj:Hq (d.pool.many≠d.pool.room):=Hd fun e=>by have:=m.fits hW (by rw[g2];exact g0) hroom;omega
   have HF:Hq (∀ id d' o' W,A2 o' W sb d'->Ab o' W->DM d d' id x lo2 g3->Chg Al o o' w W->∃ r:Nat,Ending.returned (Iv (eflip (2*id) (eneg hi):Nat))=.returned (Iv r)/\∃ o' d' V',A2 o' W sb d'/\Ab o' W/\CB d0 V0 k x y Wt done d V lo hi r d' V'/\d'.vars.length=d0.vars.length/\Chg Al o o' w W):=by
    refine Hd fun id d' o' W h1 h2 h3 h4=>⟨_,rfl,o',d',_,h1,h2,RD m hk hlo hhi g8 (by rw[g2];exact g0) (by rw[g2];exact h3) hW hWn,by rw[h3.vars];exact hvl,h4⟩
   rw[<- ge] at g1 HF;clear h hlt m hk hacy hlo hhi hkey g4 g6 g9 ga okL okH g0 g5 g7 g2 hv g8 hvl ht gg hW ge
   go_enter func222,ntmps222
   go_wp2_with fail;refine(g1.o _).mono ?_;rintro e w' ⟨rfl,rfl⟩;go_wp2_with fail;refine gi.o.mono ?_;rintro e w' ⟨rfl,rfl⟩;go_wp2_with fail;refine gm.o.mono ?_;rintro e w6 (⟨hm,rfl,gu⟩|⟨id,d',o',rfl,hs,gk,hr,hc⟩)
   . exact(gj.o hm).elim
   ·have gh:id<1048578:=by
     obtain⟨s',hs'⟩:=hs;have hn:Aa d' id=some ⟨x,lo2,g3⟩:=by rw[hr.nodes,Cc]
     have:=hs'.tk_lt hn;omega
    have gf:=Hd (GH id ng w6 (by omega));have gn:=Hd (HF.o id d' o' w6 hs gk hr hc);clear hs gk hr hc c0 c1 c2 c3 c4 f0 gl;go_wp2_with fail;refine gf.o.mono ?_;rintro e w' ⟨rfl,rfl⟩;go_wp2_with fail;go_ret;exact gn.o
section
variable {done:Nat->Prop}
structure IP (d0:Ae)(V0:Nat->BF)(x y i ll lh hl hh:Nat):Prop where
 f1:lowE d0.vars.length (levN d0) (Aa d0) y ll
 f2:lowE d0.vars.length (levN d0) (Aa d0) y lh
 f3:lowE d0.vars.length (levN d0) (Aa d0) y hl
 f4:lowE d0.vars.length (levN d0) (Aa d0) y hh
 val:∀ ρ,V0 i ρ=if ρ x then (if ρ y then ef V0 hh ρ else ef V0 hl ρ) else (if ρ y then ef V0 lh ρ else ef V0 ll ρ)
 reg:hh%2=0
theorem RE (hk:Ak d0 V0)(hy:y<d0.vars.length)(hl:levN d0 y=levN d0 x+1)(hb:Aa d0 i=some b)(hbx:b.v=x) :
 IP d0 V0 x y i (cofs d0 b.lo y).1 (cofs d0 b.lo y).2 (cofs d0 b.hi y).1 (cofs d0 b.hi y).2:=by
 have l1:=hk.dag.lvLo _ _ hb;have l2:=hk.dag.lvHi _ _ hb;rw[hbx] at l1 l2;obtain⟨a1,a2,a3,a4,a5⟩:=Cf hk (hk.dag.okLo _ _ hb) hy (by omega);obtain⟨c1,c2,c3,c4,c5⟩:=Cf hk (hk.dag.okHi _ _ hb) hy (by omega);refine⟨⟨a1,a3⟩,⟨a2,a4⟩,⟨c1,c3⟩,⟨c2,c4⟩,fun ρ=>?_,?_⟩
 . rw[hk.dag.eqn _ _ hb,hbx];unfold iteF;rw[a5 ρ,c5 ρ]
 ·have hr:=hk.dag.reg _ _ hb;unfold cofs;cases hc:Aa d0 (b.hi/2) with
  | none=>exact hr
  | some c =>
    dsimp only;split
    ·have:eneg b.hi=false:=by unfold eneg;rw[hr];rfl
     dsimp only;rw[this];exact hk.dag.reg _ _ hc
    . exact hr
theorem RF (hk:Ak d0 V0)(hx:x<d0.vars.length)(hy:y<d0.vars.length)(hxy:x≠y)(hl:levN d0 y=levN d0 x+1){ll lh hl' hh:Nat}(t:IP d0 V0 x y i ll lh hl' hh)(hne:ll≠lh\/hl'≠hh)
 (h1:ef V lo=iteF x (ef V0 hl') (ef V0 ll)) (h2:ef V hi=iteF x (ef V0 hh) (ef V0 lh)):V0 i=iteF y (ef V hi) (ef V lo)/\lo≠hi:=by
 constructor
 . funext ρ;rw[t.val ρ,h1,h2];unfold iteF;cases ρ x<;>cases ρ y<;>rfl
 ·rintro rfl;rw[h1] at h2;have ind:∀ {e:Nat},lowE d0.vars.length (levN d0) (Aa d0) y e->∀ (ρ:Nat->Bool) (b:Bool),ef V0 e (upd ρ x b)=ef V0 e ρ:=fun he ρ b=>hk.dag.indep_var he.1 (by have:=he.2;omega) ρ b
  have e1:ef V0 hl'=ef V0 hh:=by
   funext ρ;have:=congrFun h2 (upd ρ x true);unfold iteF at this;rw[ED,ind t.f3,ind t.f4] at this;simpa using this
  have e2:ef V0 ll=ef V0 lh:=by
   funext ρ;have:=congrFun h2 (upd ρ x false);unfold iteF at this;rw[ED,ind t.f1,ind t.f2] at this;simpa using this
  rcases hne with h|h
  . exact h (hk.dag.canon t.f1.1 t.f2.1 e2)
  . exact h (hk.dag.canon t.f3.1 t.f4.1 e1)
theorem RG {kk:Nat}{c:Nat->Nat}{b':BN}(hb:N i=some b):Bc kk (setN N i b') c=Bc kk N c:=by
 unfold Bc;refine B6 _ fun j _=>?_
 unfold dead1 setN
 by_cases e:j=i
 . subst e;rw[Vs rfl,hb]
 . rw[Vn e]
theorem A4.set {p':Ad}(m:A4 d0 V0 k x y Wt E done d V)(hxy:x≠y)(hk:Dag d0.vars.length (levN d0) (Aa d0) V0)(hy:y<d0.vars.length)(hT:Turns (Aa d0) x y i)(hd:¬ done i)(hb:Aa d0 i=some b)
 (hlo:midE d0.vars.length (levN d0) (Aa d0) (Aa d) x y lo) (hhi:midE d0.vars.length (levN d0) (Aa d0) (Aa d) x y hi) (hr:hi%2=0) (hne:lo≠hi) (hV:V0 i=iteF y (ef V hi) (ef V lo))
 (hn:Aa { d with pool:=p' }=setN (Aa d) i ⟨y,lo,hi⟩) (he:Aj { d with pool:=p' }=Aj d) (h1:p'.room=d.pool.room) (h2:p'.many=d.pool.many) (h3:p'.at_.length=d.pool.at_.length) :
 A4 d0 V0 k x y Wt (addE (addE (addE (addE E b.lo 1) b.hi 1) lo (-1)) hi (-1)) (fun j=>done j\/j=i) { d with pool:=p',tab:=fun u=>if u=y then putF (d.tab u) (lo,hi) (some i) else d.tab u } V:=by
 have g5:=m.fresh_y hk hxy hy hT hd hV;have g1:Aa d i=some b:=m.mid.keep i b hb hd;have g4:b.v=x:=IM hb hT;have g0:Aa { d with pool:=p',tab:=fun u=>if u=y then putF (d.tab u) (lo,hi) (some i) else d.tab u }=setN (Aa d) i ⟨y,lo,hi⟩:=hn;refine⟨by rw[g0];exact m.mid.turn hxy hT hlo hhi hr hne hV,m.vars,m.level,h1.trans m.room,he.trans m.ext,⟨?_,?_,fun j c hc=>?_⟩,fun v hv g2 lo' g3 j=>?_,fun lo' g3 j=>?_,m.clen,m.pos,?_⟩
 ·show Cnt p'.at_.length _ (Ai d) _
  rw[g0,h3];exact m.live.cnt.setLive g1 (m.pos i hT)
 ·show (d.dead:Int)=Bc p'.at_.length _ (Ai d)
  rw[g0,h3,RG g1];exact m.live.dead
 ·rw[g0] at hc
  show j<d.counts.length
  unfold setN at hc;split at hc
  . rename_i e;rw[e];exact m.live.has i b g1
  . exact m.live.has j c hc
 ·rw[g0];dsimp only
  by_cases e:v=y
  ·subst e;rw[Vs rfl];unfold putF
   by_cases e2:(lo',g3)=(lo,hi)
   ·cases e2;rw[Vs rfl];constructor
    . intro e3;cases e3;simp[setN]
    ·intro e3;unfold setN at e3;split at e3
     . rename_i e4;rw[e4]
     . have:=(m.tabO v hv g2 _ _ j).2 e3;rw[g5] at this;cases this
   ·rw[Vn e2,m.tabO v hv g2];unfold setN
    by_cases e4:j=i
    ·subst e4;rw[Vs rfl,g1];constructor
     . intro e5;cases e5;exact absurd g4 (Wi hxy)
     . intro e5;cases e5;exact absurd rfl e2
    . rw[Vn e4]
  ·rw[Vn e,m.tabO v hv g2];unfold setN
   by_cases e4:j=i
   ·subst e4;rw[Vs rfl,g1];constructor
    . intro e5;cases e5;exact absurd g4 g2
    . intro e5;cases e5;exact absurd rfl e
   . rw[Vn e4]
 ·rw[g0];dsimp only;rw[Vn hxy,m.tabX];unfold setN
  by_cases e4:j=i
  ·subst e4;rw[Vs rfl];constructor
   . rintro⟨_,h⟩;exact(h hT).elim
   . rintro⟨_,h⟩;exact(h hT).elim
  . rw[Vn e4]
 ·show p'.many=_
  rw[h2,m.many];dsimp only;rw[Vn hxy]
end
structure TRow (w:Wd)(base:Nat)(v:Value)(ts:List TN):Prop where
 small:ts.length<=1048578
 ex:∃ a c,v=.slice a ts.length c/\∀ k,∀ hk:k<ts.length,∃ g,a=some (Av g)/\base<=g/\∀ j u,(tnV ts[k])[j]?=some u->w.cell? (Aw g (k*9+j))=some u
theorem TRow.keep (h:TRow w base v ts)(hk:∀ g,base<=g->g<w.heap.size->v.ownBlock=some g->w'.heap[g]?=w.heap[g]?):TRow w' base v ts:=by
 obtain⟨a,c,rfl,h1⟩:=h.ex;refine⟨h.small,a,c,rfl,fun k g0=>?_⟩;obtain⟨g,rfl,hb,hc⟩:=h1 k g0;refine⟨g,rfl,hb,fun j u hu=>?_⟩;have:=hc j u hu;exact(Co this (hk g hb (Ah this) rfl))
theorem TRow.below (h:TRow w base v ts)(hb:Bw w w'):TRow w' base v ts:=h.keep fun g _ hg _=>hb.block g hg
def B8 (t:TN):List (Nat×Nat):=[(t.ll,t.hl),(t.lh,t.hh)]
structure BS (f:Nat×Nat->Option Nat)(ps:List (Nat×Nat))(Wt:List (Nat×Nat)):Prop where
 nodup:Wt.Nodup
 free:∀ κ∈Wt,f κ=none
 has:∀ p∈ps,p.1≠p.2->f (bkey p.1 p.2)=none->bkey p.1 p.2∈Wt
 len:Wt.length<=ps.length
theorem BS.skip {f:Nat×Nat->Option Nat}(h:BS f ps Wt){p:Nat×Nat}(hp:p.1≠p.2->f (bkey p.1 p.2)=none->bkey p.1 p.2∈Wt):BS f (ps++[p]) Wt :=
 ⟨h.nodup,h.free,fun q hq=>by
  rcases Vy.1 hq with hq|hq
  . exact h.has q hq
  . simp only[VF] at hq;subst hq;exact hp,by have:=h.len;simp;omega⟩
theorem BS.add {f:Nat×Nat->Option Nat}(h:BS f ps Wt){p:Nat×Nat}(h1:f (bkey p.1 p.2)=none)(h2:bkey p.1 p.2∉Wt):BS f (ps++[p]) (Wt++[bkey p.1 p.2]) :=
 ⟨Wg.2 ⟨h.nodup,by simp,fun a ha b hb=>by simp only[VF] at hb;subst hb;rintro rfl;exact h2 ha⟩,fun κ hκ=>by
  rcases Vy.1 hκ with hκ|hκ
  . exact h.free κ hκ
  . simp only[VF] at hκ;subst hκ;exact h1,fun q hq h3 h4=>by
  rcases Vy.1 hq with hq|hq
  . exact WQ _ (h.has q hq h3 h4)
  . simp only[VF] at hq;subst hq;simp,by have:=h.len;simp;omega⟩
def CO (Wt:List (Nat×Nat)):List ((Nat×Nat)×Value):=Wt.map fun κ=>(κ,.bool true)
theorem IQ (κ:Nat×Nat):∀ (Wt:List (Nat×Nat)) (i:Nat),(AE κ (CO Wt) i).map (·.2)=if κ∈Wt then some (.bool true) else none
 | [],_=>rfl
 | a::l,i=>by
   show (if a=κ then some (i,Value.bool true) else AE κ (CO l) (i+1)).map (·.2)=_
   by_cases e:a=κ
   . rw[Vs e];simp[e]
   . rw[Vn e,IQ κ l (i+1)];simp[Wi e]
theorem RH (Wt:List (Nat×Nat))(κ:Nat×Nat):(getL (CO Wt) κ).getD (.bool false)=.bool (decide (κ∈Wt)):=by
 unfold getL;rw[IQ]
 by_cases h:κ∈Wt
 . rw[Vs h,We h];rfl
 . rw[Vn h,VU h];rfl
theorem RI {κ:Nat×Nat}(h:κ∉Wt):putL κ (.bool true) (CO Wt)=CO (Wt++[κ]):=by
 have h1:=IQ κ Wt 0;rw[Vn h] at h1;unfold putL;cases e:AE κ (CO Wt) 0 with
 | none=>simp[CO]
 | some p=>rw[e] at h1;cases h1
theorem RJ {o:Own}(h:Ao o w sb d s)(hlt:Ab o w)(x:Nat)(hx:x<d.vars.length)(hr:TRow w base v ts)(hok:∀ t∈ts,t.ll<eMax/\t.lh<eMax/\t.hl<eMax/\t.hh<eMax) :
 Cl 217 #[Pt sb,Iv x,v] w fun e w'=>∃ Wt,e=.returned (Iv (Wt:List (Nat×Nat)).length)/\BS (d.tab x) (ts.flatMap B8) Wt/\Bw w w':=by
 obtain⟨a,c,rfl,gg⟩:=hr.ex;have hz:=hr.small;have HR:=Hd hr;obtain⟨gt,ct,gH,gC,hu,hy⟩:=h.tabAt hx;obtain⟨c0,c1,c2,c3,c4,f0⟩:=cells5 h.blk;rw[gH] at c2;have gF:=Hd (h.tab x (by rw[h.tlen];exact hx));have hg:=Hd hlt;obtain⟨t,ht⟩:=Ex (s.ts.getD x 0);rw[<- ht] at gC gF;have hv:(x:Int)<s.ts.length:=by omega
 have hm:=Hd gg;have hd:Hq (∀ k,∀ hk:k<ts.length,ts[k].ll<eMax/\ts[k].lh<eMax/\ts[k].hl<eMax/\ts[k].hh<eMax):=Hd fun k hk=>hok _ (Vv hk)
 clear h hlt hr ht gH gg hok c0 c1 c3 c4 f0;have h5:=EK (P:=prog) w 296;obtain⟨w1,gf⟩:=Ex (w.alloc (.map #[] 0));have hf:Hq (A1 w1 w.heap.size encE (CO [])):=by rw[gf];exact Hd (FF w encE)
 have hp:Hq (Bw w w1):=by rw[gf];exact Hd (Af _ _)
 have hs1:w1.heap.size=w.heap.size+1:=by rw[gf];simp
 rw[<- gf] at h5;clear gf
 go_enter func217,ntmps217
 go_wp2_with fail
 go_loopw [8,22] (fun s8 s22 wr=>∃ (k:Nat) (Wt:List (Nat×Nat)),k<=ts.length/\s22=Iv k/\s8=Iv Wt.length/\Bw w wr/\w1.heap.size<=wr.heap.size/\A1 wr w.heap.size encE (CO Wt)/\Hq (BS (d.tab x) ((ts.take k).flatMap B8) Wt)) (fun _ s22 _=>ts.length-(intOf s22).toNat)
 case atStart=>exact⟨0,[],Vu _,rfl,rfl,hp.o,Vo _,hf.o,Hd ⟨Yc,fun _ h=>by simp at h,fun _ h=>by simp at h,Vo _⟩⟩
 case round =>
  obtain⟨k,Wt,hk,rfl,rfl,g4,gZ,g3,HW⟩:=hrel;have gc:=Hd g4;have gG:=Hd g3;clear g4 g3
  by_cases hlt:k<ts.length
  ·obtain⟨g,rfl,hB,hc⟩:=hm.o k hlt;obtain⟨ok1,ok2,ok3,ok4⟩:=hd.o k hlt
   have gE:Hq ((ts.take (k+1)).flatMap B8=(ts.take k).flatMap B8++[(ts[k].ll,ts[k].hl),(ts[k].lh,ts[k].hh)]):=Hd (by
    rw[Vt hlt,WU];rfl)
   have g2:=gc.o;obtain⟨tn,gI⟩:=Ex (ts[k]);rw[<- gI] at hc ok1 ok2 ok3 ok4 gE;obtain⟨⟨i0,i1,i2,i3,i4⟩,ll,lh,hl,hh⟩:=tn;have e0:=(g2.cell (p:=(Aw g (k*9))) (Ah (hc 0 _ rfl))).trans (hc 0 _ rfl);have e1:=(g2.cell (p:=(Aw g (k*9+1))) (Ah (hc 1 _ rfl))).trans (hc 1 _ rfl);have e2:=(g2.cell (p:=(Aw g (k*9+2))) (Ah (hc 2 _ rfl))).trans (hc 2 _ rfl);have e3:=(g2.cell (p:=(Aw g (k*9+3))) (Ah (hc 3 _ rfl))).trans (hc 3 _ rfl);have e4:=(g2.cell (p:=(Aw g (k*9+4))) (Ah (hc 4 _ rfl))).trans (hc 4 _ rfl);have e5:=(g2.cell (p:=(Aw g (k*9+5))) (Ah (hc 5 _ rfl))).trans (hc 5 _ rfl);have e6:=(g2.cell (p:=(Aw g (k*9+6))) (Ah (hc 6 _ rfl))).trans (hc 6 _ rfl);have e7:=(g2.cell (p:=(Aw g (k*9+7))) (Ah (hc 7 _ rfl))).trans (hc 7 _ rfl);have e8:=(g2.cell (p:=(Aw g (k*9+8))) (Ah (hc 8 _ rfl))).trans (hc 8 _ rfl);dsimp only at ok1 ok2 ok3 ok4 gE;have h6:(k:Int)<ts.length:=by omega
   clear hc g2 gI;go_upto_region 7 with fail;obtain⟨wi,gq⟩:=Ex ((wr.alloc (.cells #[Iv i0,Iv i1,Iv i2,Iv i3,Iv i4,Iv ll,Iv lh,Iv hl,Iv hh] 256)).alloc (.cells #[Iv ll,Iv hl,Iv lh,Iv hh] 280));rw[<- gq];have gv:Bw wr wi:=by rw[gq];exact(Af _ _).alloc (by simp) _
   have g0:wi.heap[wr.heap.size+1]?=some (.cells #[Iv ll,Iv hl,Iv lh,Iv hh] 280 (0,0)):=by
    rw[gq];have:=Vq (wr.alloc (.cells #[Iv i0,Iv i1,Iv i2,Iv i3,Iv i4,Iv ll,Iv lh,Iv hl,Iv hh] 256)) (.cells #[Iv ll,Iv hl,Iv lh,Iv hh] 280);rw[VO] at this;exact this
   have HP:Hq (∀ j,j<2->∃ p1 p2:Nat,wi.cell? ⟨wr.heap.size+1,j*2,none⟩=some (Iv p1)/\wi.cell? ⟨wr.heap.size+1,j*2+1,none⟩=some (Iv p2)/\p1<eMax/\p2<eMax/\[(ll,hl),(lh,hh)].take (j+1)=[(ll,hl),(lh,hh)].take j++[(p1,p2)]):=by
    refine Hd fun j hj=>?_
    rcases(by omega:j=0\/j=1) with rfl|rfl
    . exact⟨ll,hl,by rw[Vp _ _ _ _ _ _ g0];rfl,by rw[Vp _ _ _ _ _ _ g0];rfl,ok1,ok3,rfl⟩
    . exact⟨lh,hh,by rw[Vp _ _ _ _ _ _ g0];rfl,by rw[Vp _ _ _ _ _ _ g0];rfl,ok2,ok4,rfl⟩
   have hn:=Hd (gc.o.trans (gv.mono gc.o.size));have gM:=gG.o.below gv;have gT:w1.heap.size<=wi.heap.size:=Vx gZ gv.size;have gL:wr.heap.size+1<wi.heap.size:=(Vm.1 g0).1;clear gq g0 e0 e1 e2 e3 e4 e5 e6 e7 e8 ok1 ok2 ok3 ok4 gG gc gv
   go_loopw [8,38] (fun s8 s38 wx=>∃ (j:Nat) (Wt:List (Nat×Nat)),j<=2/\s38=Iv j/\s8=Iv Wt.length/\Bw w wx/\wi.heap.size<=wx.heap.size/\(∀ q,q≠w.heap.size->q<wi.heap.size->wx.heap[q]?=wi.heap[q]?)/\A1 wx w.heap.size encE (CO Wt)/\Hq (BS (d.tab x) ((ts.take k).flatMap B8++[(ll,hl),(lh,hh)].take j) Wt)) (fun _ s38 _=>2-(intOf s38).toNat)
   case atStart=>exact⟨0,Wt,Vu _,rfl,rfl,hn.o,Vo _,fun _ _ _=>rfl,gM,Hd (by simpa using HW.o)⟩
   case round =>
    rename Wd=>wy
    clear HW gM;obtain⟨j,W2,hj,rfl,rfl,g4,gA,g5,g3,HW⟩:=hrel
    by_cases gV:j<2
    ·obtain⟨p1,p2,k1,k2,b1,b2,gJ⟩:=HP.o j gV;have q1:=(Wm (w:=wi) (w':=wy) (a:=⟨wr.heap.size+1,j*2,none⟩) (g5 _ (by dsimp only;omega) gL)).trans k1;have q2:=(Wm (w:=wi) (w':=wy) (a:=⟨wr.heap.size+1,j*2+1,none⟩) (g5 _ (by dsimp only;omega) gL)).trans k2;have gw:=Hd gJ;have gy:=Hd g5;have gm:=Hd g4;have gx:=Hd g3;have hA:(j:Int)<2:=by omega
     clear k1 k2 gJ g5 g4 g3;go_upto_region 9 with fail;obtain⟨wz,go⟩:=Ex (wy.alloc (.cells #[Iv p1,Iv p2] 280));rw[<- go];have gh:Bw wy wz:=by rw[go];exact Af _ _
     have g0:wz.heap[wy.heap.size]?=some (.cells #[Iv p1,Iv p2] 280 (0,0)):=by rw[go];exact Vq _ _
     have z1:wz.cell? (Av wy.heap.size)=some (Iv p1):=by rw[Vp _ _ 0 _ _ _ g0];rfl
     have z2:wz.cell? (Aw wy.heap.size 1)=some (Iv p2):=by rw[Vp _ _ 1 _ _ _ g0];rfl
     have gd:=Hd (gm.o.trans (gh.mono gm.o.size));have gQ:=Hd (gx.o.below gh);have gR:Hq (∀ q,q≠w.heap.size->q<wi.heap.size->wz.heap[q]?=wi.heap[q]?):=Hd fun q h1 h2=>(gh.block q (by omega)).trans (gy.o q h1 h2)
     have gU:wi.heap.size<=wz.heap.size:=Vx gA gh.size;have v2:=Cq gd.o c2;have vt:=Cq gd.o gC;clear go gh g0 q1 q2 gx gy gm;obtain⟨a1,gk⟩:∃ q,q=eflip p1 (eneg p2):=⟨_,rfl⟩;obtain⟨a2,gj⟩:∃ q,q=eflip p2 (eneg p2):=⟨_,rfl⟩;have gn:Hq (bkey p1 p2=(a1,a2)):=Hd (by unfold bkey;rw[gk,gj])
     have gP:Hq (a1=a2↔p1=p2):=Hd ⟨fun e=>by
      by_cases e2:p1=p2
      . exact e2
      . exact(FK (b:=eneg p2) e2 (by rw[<- gk,<- gj,e])).elim,fun e=>by rw[gk,gj,e]⟩
     have g6:=Hd (GG p1 p2 wz b1 b2);rw[<- gk,<- gj] at g6;obtain⟨ng,gK⟩:∃ q,q=eneg p2:=⟨_,rfl⟩;rw[<- gK] at g6;have gD:=Hd (gF.o.below gd.o hg.o);clear gk gj gK b1 b2;go_wp2_with fail;refine g6.o.mono ?_;rintro e w' ⟨rfl,rfl⟩;clear g6 z1 z2;have h7:∃ fd:Option Nat,fd=d.tab x (a1,a2):=⟨_,rfl⟩;obtain⟨fd,gu⟩:=h7;have gz:Hq (Cl 247 #[Pt t,Iv a1,Iv a2] wz (Sm (.tuple #[Iv ((fd.getD 0:Nat):Int),.bool fd.isSome]) wz)):=by
      refine Hd ?_;cases fd with
      | none=>exact GW o x t (d.tab x) a1 a2 wz gD.o gu.symm
      | some id=>exact GV o x t (d.tab x) a1 a2 id wz gD.o gu.symm
     have gS:=Hd gu;clear gu;go_wp2_with fail;refine gz.o.mono ?_;rintro e w' ⟨rfl,rfl⟩;clear gz v2 vt;go_upto_region 12 with fail;obtain⟨wk,gp⟩:=Ex (wz.alloc (.cells #[Iv a1,Iv a2] 280));rw[<- gp];have gi:Bw wz wk:=by rw[gp];exact Af _ _
     have g0:wk.heap[wz.heap.size]?=some (.cells #[Iv a1,Iv a2] 280 (0,0)):=by rw[gp];exact Vq _ _
     have z1:wk.cell? (Av wz.heap.size)=some (Iv a1):=by rw[Vp _ _ 0 _ _ _ g0];rfl
     have z2:wk.cell? (Aw wz.heap.size 1)=some (Iv a2):=by rw[Vp _ _ 1 _ _ _ g0];rfl
     have ga:=Hd (gd.o.trans (gi.mono gd.o.size));have gl:=Hd (gQ.o.below gi);have HKK:Hq (∀ q,q≠w.heap.size->q<wi.heap.size->wk.heap[q]?=wi.heap[q]?):=Hd fun q h1 h2=>(gi.block q (by omega)).trans (gR.o q h1 h2)
     have ge:wi.heap.size<=wk.heap.size:=Vx gU gi.size;clear gp gi g0 gQ gR gd gD
     by_cases g7:p1=p2
     ·have gO:a1=a2:=gP.o.2 g7;have g9:Hq (BS (d.tab x) ((ts.take k).flatMap B8++[(ll,hl),(lh,hh)].take (j+1)) W2):=Hd (by rw[gw.o,<- VC];exact HW.o.skip fun h=>(h g7).elim);have gX:((a1:Int) == a2)=true:=by simp[gO]
      clear g7 gO;go_wp2_with fail;go_roundw
      case rel=>exact⟨j+1,W2,by omega,by go_num,rfl,ga.o,ge,HKK.o,gl.o,g9⟩
      case measure=>simp[intOf];omega
     have gX:((a1:Int) == a2)=false:=by
      have h1:a1≠a2:=fun e=>g7 (gP.o.1 e)
      simp;omega
     cases fd with
     | some id =>
       have g9:Hq (BS (d.tab x) ((ts.take k).flatMap B8++[(ll,hl),(lh,hh)].take (j+1)) W2):=Hd (by
        rw[gw.o,<- VC];exact HW.o.skip fun _ h=>by rw[gn.o,<- gS.o] at h;cases h)
       clear g7;go_wp2_with fail;go_roundw
       case rel=>exact⟨j+1,W2,by omega,by go_num,rfl,ga.o,ge,HKK.o,gl.o,g9⟩
       case measure=>simp[intOf];omega
     | none =>
       have g1:=gl.o.lookup (P:=prog) Dw underlying296 zeroValue4 (a1,a2) false;rw[RH] at g1;simp only[Xy,if_false] at g1
       by_cases g8:(a1,a2)∈W2
       ·rw[We g8] at g1
        have g9:Hq (BS (d.tab x) ((ts.take k).flatMap B8++[(ll,hl),(lh,hh)].take (j+1)) W2):=Hd (by
         rw[gw.o,<- VC];exact HW.o.skip fun _ _=>by rw[gn.o];exact g8)
        unfold encE at g1;dsimp only at g1;clear g7 g8;go_wp2_with fail;go_roundw
        case rel=>exact⟨j+1,W2,by omega,by go_num,rfl,ga.o,ge,HKK.o,gl.o,g9⟩
        case measure=>simp[intOf];omega
       ·rw[VU g8] at g1
        have g9:Hq (BS (d.tab x) ((ts.take k).flatMap B8++[(ll,hl),(lh,hh)].take (j+1)) (W2++[(a1,a2)])):=Hd (by
         rw[gw.o,<- VC];have:=HW.o.add (p:=(p1,p2)) (by rw[gn.o,<- gS.o]) (by rw[gn.o];exact g8);rw[gn.o] at this;exact this)
        have gY:=Hd (RI g8);have hw:W2.length<=4194312:=by
         have h1:=HW.o.len;have h2:((ts.take k).flatMap B8).length<=2*ts.length:=by
          rw[List.length_flatMap];have:((ts.take k).map fun a=>(B8 a).length)=List.replicate (ts.take k).length 2:=by
           rw[List.eq_replicate_iff];exact⟨by simp,fun b hb=>by obtain⟨q,_,rfl⟩:=Vz.1 hb;rfl⟩
          rw[this];simp;omega
         have h3:([(ll,hl),(lh,hh)].take j).length<=2:=by simp;omega
         rw[Vr] at h1;omega
        unfold encE at g1;dsimp only at g1;clear g7 g8;go_wp2_with (refine JS (l:=CO W2) (enc:=encE) rfl _ _ _ rfl Dw underlying296 (a1,a2) (.bool true) rfl rfl rfl gl.o ?_;intro w6 gB gr);rw[gY.o] at gB;have ho:=Hd (ga.o.grown gr ga.o.size (fun q hq=>by cases hq;exact Vo _));have he:=Hd gB;have h4:wi.heap.size<=w6.heap.size:=Vx ge gr.size;have hi:Hq (∀ q,q≠w.heap.size->q<wi.heap.size->w6.heap[q]?=wi.heap[q]?):=Hd fun q h1 h2=>(gr.block q (by omega) (fun e=>h1 (by injection e))).trans (HKK.o q h1 h2)
        clear gB gr;go_roundw
        case rel=>exact⟨j+1,W2++[(a1,a2)],by omega,by go_num,by simp,ho.o,h4,hi.o,he.o,g9⟩
        case measure=>simp[intOf];omega
    ·have h8:j=2:=by omega
     subst h8;have ha:Hq (BS (d.tab x) ((ts.take (k+1)).flatMap B8) W2):=Hd (by rw[gE.o];exact HW.o);have gm:=Hd g4;have gx:=Hd g3;have h0:w1.heap.size<=wy.heap.size:=Vx gT gA;clear g4 g3 g5;go_wp2_with fail;go_roundw
     case rel=>exact⟨k+1,W2,by omega,by go_num,rfl,gm.o,h0,gx.o,ha⟩
     case measure=>simp[intOf];omega
  ·have gN:k=ts.length:=by omega
   have h9:Hq (∃ W':List (Nat×Nat),Ending.returned (Iv (Wt.length:Nat))=.returned (Iv (W'.length:Nat))/\BS (d.tab x) (ts.flatMap B8) W'/\Bw w wr):=Hd ⟨Wt,rfl,by have:=HW.o;rw[gN,VI] at this;exact this,gc.o⟩;have h6:¬ (k:Int)<ts.length:=by omega
   clear gN;go_wp2_with fail;go_ret;exact h9.o
open Go.ChangeMaps (setBlock)
def LH (n:Nat)(w:Wd)(v:Value)(ks:List (Nat×Nat)):Prop:=∃ a c,v=.slice a ks.length c/\∀ j q,ks[j]?=some q->∃ g,a=some (Av g)/\n<=g/\w.cell? (Aw g (j*2))=some (Iv q.1)/\w.cell? (Aw g (j*2+1))=some (Iv q.2)
theorem IR (ks:List (Nat×Nat)){q:Nat×Nat}(h:ks[j]?=some q)(i:Nat)(hi:i<2):(Go.Sort.flatK AQ 2 ks.toArray)[j*2+i]! = (AQ q)[i]! := by
 obtain⟨hj,rfl⟩:=Wf.1 h;rw[Go.Sort.get_flatK _ _ _ _ (by simp;omega)];have e1:(j*2+i)/2=j:=by omega
 have e2:(j*2+i)%2=i:=by omega
 rw[e1,e2];congr 2;simp[hj]
theorem RK (ks:List (Nat×Nat)):(ks.flatMap AQ).length=ks.length*2:=Cb AQ 2 (fun _=>rfl) ks
theorem RL {m:Nat}{ks:List (Nat×Nat)}(h:RowR oG w .slots 280 2 (.slice (some (Av g)) m cap) ks.length (ks.flatMap AQ)):Go.Sort.HoldsK AQ 2 w g 0 ks.toArray:=by
 intro j hj;have g0:j<ks.length*2:=by simpa using hj
 refine⟨?_,by rw[VJ];exact h.frozen j⟩;rw[VJ,h.cell j (by rw[RK];exact g0)];have hd:j/2<ks.length:=by omega
 have hm:j%2<2:=by omega
 have e:j=j/2*2+j%2:=by omega
 obtain⟨q,hq⟩:∃ q,ks[j/2]?=some q:=⟨_,VD hd⟩;have h1:=DD AQ 2 (fun _=>rfl) ks (j/2) (j%2) q hq hm;have h2:=IR ks hq (j%2) hm;rw[<- e] at h1 h2;rw[h1,h2];obtain h0|h0:j%2=0\/j%2=1:=by omega
 . rw[h0];rfl
 . rw[h0];rfl
theorem RM {ks:List (Nat×Nat)}(hg:n<=g)(h:Go.Sort.HoldsK AQ 2 w g 0 ks.toArray):LH n w (.slice (some (Av g)) ks.length cap) ks:=by
 refine⟨_,_,rfl,fun j q hq=>⟨g,rfl,hg,?_,?_⟩⟩
 . have hj:=(Wf.1 hq).1;have h1:=(h (j*2) (by simp;omega)).1;have h2:=IR ks hq 0 (by omega);rw[Xj] at h2;rw[VJ] at h1;rw[h1,h2];rfl
 . have hj:=(Wf.1 hq).1;have h1:=(h (j*2+1) (by simp;omega)).1;have h2:=IR ks hq 1 (by omega);rw[VJ] at h1;rw[h1,h2];rfl
theorem RO {f:Nat×Nat->Option Nat}{ks:List (Nat×Nat)}{Bx:Nat}(row:RowR oG w .slots 280 2 v ks.length (ks.flatMap AQ))(hlen:ks.length<1000000000)(hlow:Bw W w)
 (cB:W.cell? (Av Bx)=some (Pt t)) (cT:W.cell? (Av t)=some (.map (some mb))) (ge:∀ k r,oG k=some r->W.heap.size<=k) (lt:Ab oG w) (hmap:∀ W':Wd,W'.heap[mb]?=W.heap[mb]?->A1 W' mb encE lm) (hget:∀ k,getL lm k=(f k).map (fun(id:Nat)=>Value.int .i64 id))
 (lB:Bx<W.heap.size) (lT:t<W.heap.size) (lM:mb<W.heap.size) :
 Cl 269 #[v,.func (.func 270) #[] #[Pt Bx]] w fun e w'=>e=.returned (.tuple #[])/\∃ ks':List (Nat×Nat),ks'.Perm ks/\LH W.heap.size w' v ks'/\Bw W w':=by
 rcases row.ex with ⟨rfl,h0⟩|⟨g,cap,cur,rfl,g1,hg,_⟩
 ·have hk:ks=[]:=WH h0;subst hk;have g0:=AnyF.slices_SortFunc_none Tryz.sortKeys none 0 (.func (.func 270) #[] #[Pt Bx]) w
  change Cl 269 _ _ _ at g0
  refine g0.mono ?_;rintro e w' ⟨rfl,rfl⟩;exact⟨rfl,[],List.Perm.refl _,⟨none,0,rfl,fun j q h=>by simp at h⟩,hlow⟩
 . have h1:=ge g _ g1;refine(R4 (f:=f) (RL row) (lt g _ g1) hlen ((hlow.cell (p:=Av Bx) lB).trans cB) ((hlow.cell (p:=Av t) lT).trans cT) (hmap w (hlow.block mb lM)) hget (by omega) (by omega) (by omega)).mono ?_;rintro e w' ⟨rfl,ks',hp,hh,hs,e1,e2,e3,hk⟩;have:=hp.length_eq;refine⟨rfl,ks',hp,?_,⟨e1.trans hlow.os,e2.trans hlow.tape,e3.trans hlow.output,Vx hlow.size hs,fun b hb=>(hk b (VH hb hlow.size) (by omega)).trans (hlow.block b hb)⟩⟩;rw[<- this];exact RM h1 hh
theorem RP {F:Fence}{c:Code}(R:Wd->Prop)(h:∃ A,c.wpIn F n P (fun e a' W'=>match e with|.normal=>a'=A/\R W'|_=>False) a w/\∀ W',R W'->Q .normal A W'):c.wpIn F n P Q a w:=by
 obtain⟨A,h1,h2⟩:=h;refine wpIn_mono h1 ?_;intro e a' W' h;cases e with
 | normal=>obtain⟨rfl,h3⟩:=h;exact h2 _ h3
 | _=>exact h.elim
structure YS (n₀:Nat)(W w2:Wd)(Bx t:Nat)(ak:Option Addr)(ks:List (Nat×Nat))(M M1:Nat->Prop)(wr:Wd):Prop where
 low:Below n₀ W wr
 box:wr.cell? (Av Bx)=some (Pt t)
 keys:∀ j q,ks[j]?=some q->∃ g,ak=some (Av g)/\W.heap.size<=g/\g<w2.heap.size/\wr.cell? (Aw g (j*2))=some (Iv q.1)/\wr.cell? (Aw g (j*2+1))=some (Iv q.2)
 nb:¬ M1 Bx
 sub:∀ k,M1 k->M k\/w2.heap.size<=k
 lt:∀ k,M k->k<W.heap.size
 ge:∀ k,M1 k->n₀<=k
 wr:Wr (fun k=>n₀<=k) w2 wr
theorem YS.go {w2:Wd}{Bx:Nat}{ak:Option Addr}{ks:List (Nat×Nat)}{M1 M2:Nat->Prop}(h:YS n₀ W w2 Bx t ak ks M M1 wr)(hn:n₀<=W.heap.size)(hx:Bw wr wx)(hw:Wr M1 wx w')(hM:∀ k,M2 k->M1 k\/wx.heap.size<=k):YS n₀ W w2 Bx t ak ks M M2 w':=by
 have s0:=h.low.size;have s1:=h.wr.size;have s2:=hx.size;have keep:∀ {b k:Nat} {v:Value},wr.cell? (Aw b k)=some v->¬ M1 b->w'.cell? (Aw b k)=some v:=fun {b k v} hc hb=>by
  have g0:b<wr.heap.size:=Ah hc;exact(Co ((hx.cell (p:=Aw b k) g0).trans hc) (hw.keep b (by omega) hb))
 refine⟨h.low.trans ((hx.mono (by omega)).trans (hw.below h.ge (by omega))),keep h.box h.nb,fun j q hq=>?_,fun e=>?_,fun k hk=>?_,h.lt,fun k hk=>?_,h.wr.trans ((Wr.of_below hx (fun k=>n₀<=k)).trans hw (fun _ _ e=>e) (fun k _ hk=>h.ge k hk)) (fun _ _ e=>e) (fun _ _ e=>e)⟩
 ·obtain⟨g,e,a1,a2,a3,a4⟩:=h.keys j q hq;have hg:¬ M1 g:=fun hg=>by
   rcases h.sub g hg with h1|h1
   . have:=h.lt g h1;omega
   . omega
  exact⟨g,e,a1,a2,keep a3 hg,keep a4 hg⟩
 ·rcases hM Bx e with h1|h1
  . exact h.nb h1
  . have:=Ah h.box;simp at this;omega
 ·rcases hM k hk with h1|h1
  . exact h.sub k h1
  . right;omega
 ·rcases hM k hk with h1|h1
  . exact h.ge k h1
  . omega
theorem RQ (n n₀ Bx t v:Nat){o:Own}{f:Nat×Nat->Option Nat}(ht:AN o w0 v t f)(hlt:Ab o w0)(h0:w0.heap.size<=n₀)(w:Wd)(hw:Below n₀ w0 w)(hn0:n₀<=w.heap.size)(hBn:n₀<=Bx)(hBp:w.cell? (Av Bx)=some (Pt t))
 (hcard:∀ l:List ((Nat×Nat)×Value),(l.map Prod.fst).Nodup->(∀ k,getL l k=(f k).map (fun(id:Nat)=>Value.int .i64 id))->l.length<1000000000) :
 L1 Fence.wide n 0 prog 268 #[Pt Bx] (fun p:(Nat×Nat)×Nat=>#[encE p.1,Iv p.2]) n₀ (· = Bx) (fun xs=>(xs.map Prod.fst).Nodup/\∀ k id,(k,id)∈xs↔f k=some id) w:=by
 intro l J M W gX gY gm h7 hY hJ;have k6:Bx<W.heap.size:=VH (Ah hBp) gm.size;have gc:Below n₀ w0 W:=hw.trans (gm.below (fun k h=>h.1) hn0);have cB:W.cell? (Av Bx)=some (Pt t):=Co hBp (gm.keep Bx (Ah hBp) (fun h=>h.2 rfl));obtain⟨mb,lm,h1,h2,h3,h4⟩:=ht.ex;have hZ:t<w0.heap.size:=(Vm.1 h1).1;have hT:W.heap[t]?=some (.cells #[.map (some mb)] 230 (0,0)):=(gc.block t (by omega)).trans h1;have cT:=cell1 hT;have k3:mb<w0.heap.size:=h3.lt;obtain⟨es,clock,gO,gl,g9,gB⟩:=h3.ex;have hM:W.heap[mb]?=some (.map es clock):=(gc.block mb (by omega)).trans gO;have gL:=run_range_map (P:=prog) W 228 _ _ mb es clock underlying228 hM;obtain⟨W1,gn⟩:=Ex (W.alloc (.mapIter (some mb) clock #[] clock));have gU:Bw W W1:=by rw[gn];exact Af _ _
 have gR:W1.heap[W.heap.size]?=some (.mapIter (some mb) clock #[] clock):=by rw[gn];exact Vq _ _
 rw[<- gn] at gL;have gP:mb<W.heap.size:=by have:=gc.size;omega
 have gy:es.size<1000000000:=by
  have e1:=Wb List.length gl;have e2:=hcard lm h3.nodup h4;simp at e1;omega
 have hu:=Hd gy;have gE:Hq (∀ W',W'.heap[mb]?=W.heap[mb]?->A1 W' mb encE lm):=Hd fun W' hh=>⟨⟨es,clock,hh.trans hM,gl,g9,gB⟩,h3.nodup⟩
 have gd:=Hd h4;have hO:=Hd (hcard lm h3.nodup h4);have hK:=Hd h3.nodup;have HM:=Hd hM;have gI:=Hd g9;have hf:=Hd gB;have hd:=Hd gl;have hX:=Hd gU;have hc:=Hd gR;have HJ:=Hd hJ;have hL:=Hd (h7 Bx rfl);have HY:=Hd hY;have h9:=Hd gX;have ha:=Hd gY;obtain⟨r,hr⟩:=Ex W.heap.size;rw[<- hr] at gL hc;have HR:=Hd hr;clear hcard gy hJ hY gX gY gU gR gn hM g9 gB gl h1 h2 h3 h4 hT gO ht gm h7 hw hr;refine callsIn_of_wp func268 rfl trivial ?_ rfl;refine wpIn_wide.2 ?_;simp only[ntmps268,WJ,VG,WI,Nat.reduceAdd,Nat.reduceSub,WZ,Xa,Xi,Xf,Wz,Xh];go_wp2_with fail
 go_loopg [3] (leftOf es #[]).size (fun gk s3 wr=>∃ seen ks sl oG,KeyS W mb r clock es seen ks sl s3 oG wr/\gk=(leftOf es seen).size)
 case atStart=>exact⟨#[],[],[],fun _=>none,⟨hX.o,hc.o,CN.start es clock,RowR.nil _ _ _ _ _,fun k q h=>(by cases h),fun k q h=>(by cases h),rfl,by have h:(leftOf es #[]).size<=es.size:=(by unfold leftOf;exact Array.size_filter_le);simpa using h⟩,rfl⟩
 case round =>
  obtain⟨seen,ks,sl,oG,hS,gx⟩:=hrel;have gp:=(hS.low.block mb gP).trans HM.o;have g8:ks.length<1000000000:=by have:=hS.cnt;have:=hu.o;omega
  rcases run_next_at (P:=prog) wr 0 r mb clock clock seen es clock hS.it gp gI.o (Vo _) with ⟨hz,g4⟩|⟨e,he,w1,g6,g4⟩
  ·have gi:=hS.came.keysOf (w:=W) (b:=mb) hf.o hz hd.o;have gh:=RO hS.row g8 (hS.low.trans (VA _ _)) cB cT (fun k q h=>(hS.ge k q h).2) hS.lt gE.o gd.o (Ah cB) (Ah cT) gP;have gH:=Hd gi;have gG:=Hd gh;clear hS hz gi gh;go_wp2_with fail;refine gG.o.mono ?_;rintro x w2 ⟨rfl,ks',hp,hv,g5⟩;obtain⟨ak,ck,rfl,ga⟩:=hv;have HP:=Hd (hp.trans gH.o);have hU:=Hd ga;have HB2:=Hd g5;have h6:J [] M w2:=ha.o _ _ _ _ HJ.o ⟨g5.os,g5.tape,g5.output,g5.size,fun k hk _=>g5.block k hk⟩;have hQ:=Hd h6;clear hp ga g5 h6 g4 gp g8 gx;go_wp2_with fail;refine(wpIn_wide (n:=n)).1 ?_;obtain⟨xs,gv⟩:=Ex (ks'.map (fun k=>(k,(f k).getD 0)));have gj:=R5 HP.o hK.o gd.o gv;have k4:ks'.length<1000000000:=by have h1:=HP.o.length_eq;have h2:=hO.o;simp at h1;omega
   have h8:=Hd gv;have gu:=Hd gj;have gJ:YS n₀ W w2 Bx t ak ks' M M w2:=by
    refine⟨HB2.o.mono (by omega),(Cq HB2.o cB),fun j q hq=>?_,hL.o,fun k h=>.inl h,fun k hk=>(h9.o _ _ _ HJ.o k hk).2,fun k hk=>(h9.o _ _ _ HJ.o k hk).1,Wr.refl _ _⟩;obtain⟨g,a1,a2,a3,a4⟩:=hU.o j q hq;exact⟨g,a1,a2,Ah a3,a3,a4⟩
   have hD:=Hd gJ;have k0:prog.follows .mixedOrders=true:=by kernel_rfl
   clear gv gj gJ
   gi_loopw [27] (fun i wr=>∃ (k:Nat) (M1:Nat->Prop),k<=ks'.length/\i=Iv k/\J (xs.take k) M1 wr/\YS n₀ W w2 Bx t ak ks' M M1 wr) (fun i _=>ks'.length-(intOf i).toNat)
   case atStart=>exact⟨0,M,Vu _,rfl,hQ.o,hD.o⟩
   case round =>
    obtain⟨k,M1,hk,rfl,gr,hS⟩:=hrel
    by_cases gw:k<ks'.length
    ·obtain⟨q,hq⟩:∃ q,ks'[k]?=some q:=⟨_,VD gw⟩;obtain⟨g,hC,hB,hA,e0,e1⟩:=hS.keys k q hq;subst hC;have k5:(k:Int)<ks'.length:=by omega
     have cB3:=hS.box;have cT3:=(hS.low.cell (p:=Av t) (by show t<n₀;omega)).trans cT;obtain⟨w3,g0⟩:=Ex (wr.alloc (.cells #[Iv q.1,Iv q.2] 280));have g2:Bw wr w3:=by rw[g0];exact Af _ _
     have h5:J (xs.take k) M1 w3.drew:=ha.o _ _ _ _ gr (by
      have:=(Wr.of_below g2 (fun k=>n₀<=k/\¬ M1 k)).drew;exact this)
     have g7:=R6 (G:=fun xs:List ((Nat×Nat)×Nat)=>(xs.map Prod.fst).Nodup/\∀ k id,(k,id)∈xs↔f k=some id) gu.o (k:=k) (x:=(q,(f q).getD 0)) (by rw[h8.o,WN,hq];rfl);obtain⟨suf,g7,gg⟩:=g7;obtain⟨fn,tmps,assign,body,hy,gV⟩:=HY.o _ (q,(f q).getD 0) M1 w3.drew h5 ⟨suf,g7⟩;have hj:mb<n₀:=by omega
     have gF:=L4 (gE.o w3.drew ((g2.block mb (by have:=hS.low.size;omega)).trans (hS.low.block mb hj))) gd.o q;have gT:w3.heap[wr.heap.size]?=some (.cells #[Iv q.1,Iv q.2] 280 (0,0)):=by rw[g0];exact Vq _ _
     obtain⟨x0,x1,_⟩:=cells2 gT;have b3:=Cq g2 cB3;have t3:=Cq g2 cT3;simp only[encE] at hy;have hH:=Hd gV;have HS:=Hd hS;have hg:=Hd g2;have hE:=Hd gg;have gD:Hq (_=w3):=Hd g0.symm;obtain⟨b6,gC⟩:=Ex wr.heap.size;have hW:Hq (_=b6):=Hd gC.symm;rw[<- gC] at x0 x1;clear gT hS g2 h5 gr g7 gV gg g0 gC gw hB hA hq cB3 cT3
     gi_wp2
     rw[gD.o,hW.o];refine RP (fun W'=>∃ M3,J (xs.take k++[(q,(f q).getD 0)]) M3 W'/\Wr M1 w3.drew W'/\∀ k,M3 k->M1 k\/w3.drew.heap.size<=k) ?_;apply Exists.intro;refine⟨?_,?_⟩
     ·gi_region_with_o (refine⟨fun h=>(by cases h),hH.o.mono ?_⟩;rintro e W4 ⟨rfl,M3,gt,gf,gq⟩)
      all_goals exact⟨rfl,M3,gt,gf,gq⟩
     ·rintro W4 ⟨M3,gt,gf,gq⟩;have hP:=Hd gt;have hG:=Hd (HS.o.go (by omega) (hg.o.trans ((An w3 1).mono hg.o.size)) gf gq);clear gt gf gq x0 x1 b3 t3 e0 e1 gF hy
      gi_wp2
      go_roundw
      case rel=>exact⟨k+1,M3,by omega,by go_num,by rw[hE.o];exact hP.o,hG.o⟩
      case measure=>simp[intOf];omega
    ·obtain rfl:k=ks'.length:=by omega
     have hb:=Hd gr;have HS:=Hd hS;clear gr hS
     gi_wp2
     go_end0;have ht:xs.take ks'.length=xs:=WA (by rw[h8.o];simp);rw[ht] at hb;exact⟨⟨_,rfl⟩,xs,M1,gu.o,hb.o,(Wr.of_below HB2.o (fun k=>n₀<=k)).trans HS.o.wr (fun _ _ e=>e) (fun _ _ e=>e),fun k hk=>(HS.o.sub k hk).imp id fun h=>Vx HB2.o.size h⟩
  ·have gA:=(mem_left he).1;obtain⟨q,hq⟩:∃ q,e.key=encE q:=by
    have h1:(e.key,e.val)∈es.toList.map (fun e=>(e.key,e.val)):=Vz.2 ⟨e,gA,rfl⟩;rw[hd.o] at h1;obtain⟨p,_,h2⟩:=Vz.1 h1;exact⟨p.1,(Prod.mk.inj h2).1.symm⟩
   obtain⟨w2,g3⟩:=Ex (setBlock w1 r (.mapIter (some mb) clock (seen.push e.born) clock));have hi:=g3;obtain⟨w3,g0⟩:=Ex (w2.alloc (.cells #[Iv q.1,Iv q.2] 280));have g2:Bw w2 w3:=by rw[g0];exact Af _ _
   obtain⟨row3,lt3⟩:=hS.row3 g6 g3 g2;have z2:w2.heap.size=wr.heap.size:=by rw[g3];rcases g6 with rfl|rfl<;>simp[setBlock]
   have gK:r<wr.heap.size:=(Vm.1 hS.it).1;have gN:mb≠r:=by have:=HR.o;omega
   have gZ:w2.heap[mb]?=some (.map es clock):=by rw[g3];rcases g6 with rfl|rfl<;>simp[setBlock,Xp,Wi gN]<;>exact gp
   have i2:w2.heap[r]?=some (.mapIter (some mb) clock (seen.push e.born) clock):=by rw[g3];rcases g6 with rfl|rfl<;>simp[setBlock,gK]
   have gz:=run_entry_at (P:=prog) w2 r mb clock seen es clock e i2 gZ gA hf.o;have hI:Hq (∀ (g1 k1:Nat) (w4:Wd) (o1:Own),RowR o1 w4 .slots 280 2 (.slice (some (Av g1)) (ks.length+1) k1) (ks.length+1) (ks.flatMap AQ++AQ q)->Chg (· = .slots) oG o1 w3 w4->Ab o1 w4->KeyS W mb r clock es (seen.push e.born) (ks++[q]) (sl++[e]) (.slice (some (Av g1)) (ks.length+1) k1) o1 w4) :=
    Hd fun g1 k1 w4 o1 a b c=>hS.next (by have:=HR.o;omega) he hq g6 g3 g2 a b c
   have hF:=Hd (left_shrinks es seen e he);have cB2:w3.cell? (Av w2.heap.size)=some (Iv q.1):=by rw[g0,Vp _ _ 0 _ _ _ (Vq w2 _)];rfl
   have cB3:w3.cell? (Aw w2.heap.size 1)=some (Iv q.2):=by rw[g0,Vp _ _ 1 _ _ _ (Vq w2 _)];rfl
   have hR:=Hd gx;have ho:=Hd g8;have hm:=Hd row3;have hn:=Hd lt3;rw[hq] at g4 gz;rw[<- g3] at g4;unfold encE at g4 gz;have gD:Hq (_=w3):=Hd g0.symm;clear hS he gA hq g6 g3 hi g0 g2 row3 lt3 z2 gK gN gZ i2 gp gx g8;go_upto_region 5 with fail;rw[gD.o]
   go_wp2_with (at_builtin
                refine EI (wr:=w3) 297 280 2 16 _ underlying297 Ry rfl (by decide) rfl _ _ rfl rfl rfl rfl rfl rfl (by simp[Value.oneCell']) hm.o hn.o ho.o (by decide) ?_;intro g1 k1 w4 o1 gM gS gQ;have hN:=Hd (hI.o g1 k1 w4 o1 gM gS gQ);clear gM gS gQ)
   go_roundg (leftOf es (seen.push e.born)).size
   case rel=>exact⟨_,_,_,_,hN.o,rfl⟩
   case measure=>have h1:=hF.o;have h2:=hR.o;omega
theorem E3:∀ (n:Nat) (l:List Nat),l.Nodup->(∀ x∈l,x<n)->l.length<=n
 | 0,l,_,h=>by
   cases l with
   | nil=>simp
   | cons a l=>have:=h a (by simp);omega
 | n+1,l,hn,h=>by
   by_cases hm:n∈l
   ·have h1:=E3 n (l.erase n) (hn.erase n) (fun x hx=>by
     have h2:=h x (List.mem_of_mem_erase hx);have h3:x≠n:=fun e=>by subst e;exact(List.Nodup.not_mem_erase hn) hx
     omega)
    rw[List.length_erase_of_mem hm] at h1;omega
   ·have h1:=E3 n l hn (fun x hx=>by
     have h2:=h x hx;have h3:x≠n:=fun e=>by subst e;exact hm hx
     omega)
    omega
theorem RR (ht:∀ lo hi id,d.tab x (lo,hi)=some id->Aa d id=some ⟨x,lo,hi⟩)(hlt:∀ i b,Aa d i=some b->i<n)(hn:n<1000000000)(l:List ((Nat×Nat)×Value))(hnd:(l.map Prod.fst).Nodup)(hf:∀ k,getL l k=(d.tab x k).map (fun(id:Nat)=>Value.int .i64 id)):l.length<1000000000:=by
 have hk:∀ k∈l.map Prod.fst,∃ id,d.tab x k=some id:=fun k hk=>by
  cases h:d.tab x k with
  | some id=>exact⟨id,rfl⟩
  | none =>
    have h1:=Dh (l:=l) (k:=k);rw[hf k,h] at h1;obtain⟨p,hp,rfl⟩:=Vz.1 hk;exact absurd rfl (h1.1 rfl p hp)
 have g0:(((l.map Prod.fst)).map fun k=>(d.tab x k).getD 0).Nodup:=by
  refine Xk.2 (hnd.imp_of_mem ?_);intro a b ha hb g2 e;obtain⟨i,hi⟩:=hk a ha;obtain⟨j,hj⟩:=hk b hb;rw[hi,hj] at e;simp only[Option.getD_some] at e;subst e;have e1:=ht a.1 a.2 _ hi;have e2:=ht b.1 b.2 _ hj;rw[e1] at e2;simp only[VY,BN.mk.injEq,true_and] at e2;exact g2 (Prod.ext e2.1 e2.2)
 have:=E3 n _ g0 (fun i hi=>by
  obtain⟨k,g1,rfl⟩:=Vz.1 hi;obtain⟨id,h1⟩:=hk k g1;rw[h1];exact hlt _ _ (ht k.1 k.2 _ h1))
 simp at this;omega
attribute [local go_sem] XT
theorem RS (t:Nat)(w:Wd):Cl 257 #[Pt t] w fun e w'=>e=.returned (.func (.func 268) #[] #[Pt w.heap.size])/\w'=w.alloc (.cells #[Pt t] 173):=by
 have g0:∀ (fn:Fn) (first cap:Array Value) (w:Wd),(Instr.makeFunc fn first cap).run prog w=.ok (.func fn first cap) w:=fun _ _ _ _=>rfl
 go_enter func257,ntmps257
 go_wp2_with fail;go_ret;exact⟨rfl,rfl⟩
def Bj (d:Ae)(y:Nat)(pre:List ((Nat×Nat)×Nat)):List TN:=(pre.filter (fun p=>Cp d y p.2)).map (fun p=>tnOf d y p.2)
structure TurS (d:Ae)(y:Nat)(w:Wd)(sb:Nat)(pre:List ((Nat×Nat)×Nat))(M:Nat->Prop)(W:Wd)(v:Value)(oG:Own):Prop where
 mm:∀ k,M k↔(k=w.heap.size\/k=w.heap.size+1\/k=w.heap.size+2\/oG k=some .slots)
 low:Bw w W
 boxs:W.heap[w.heap.size]?=some (.cells #[Pt sb] 96 (0,0))
 boxy:W.heap[w.heap.size+1]?=some (.cells #[Iv y] 3 (0,0))
 boxg:W.heap[w.heap.size+2]?=some (.cells #[v] 249 (0,0))
 row:RowR oG W .slots 256 9 v (Bj d y pre).length ((Bj d y pre).flatMap tnV)
 lt:Ab oG W
 ge:∀ k r,oG k=some r->r=.slots/\w.heap.size+3<=k
theorem TurS.no {pre:List ((Nat×Nat)×Nat)}(h:TurS d y w sb pre M W v oG)(k:Nat)(hk:k<w.heap.size+3):oG k=none:=by
 cases e:oG k with
 | none=>rfl
 | some r=>have:=(h.ge k r e).2;omega
theorem TurS.minds {pre:List ((Nat×Nat)×Nat)}(h:TurS d y w sb pre M W v oG)(hw:Wr (fun k=>w.heap.size<=k/\¬ M k) W W'):TurS d y w sb pre M W' v oG:=by
 have hk:∀ k,k<W.heap.size->M k->W'.heap[k]?=W.heap[k]?:=fun k h1 h2=>hw.keep k h1 (fun e=>e.2 h2)
 have hm:=h.mm
 refine⟨hm,h.low.trans (hw.below (fun k h=>h.1) h.low.size),(hk _ (Vm.1 h.boxs).1 ((hm _).2 (.inl rfl))).trans h.boxs,(hk _ (Vm.1 h.boxy).1 ((hm _).2 (.inr (.inl rfl)))).trans h.boxy,
  (hk _ (Vm.1 h.boxg).1 ((hm _).2 (.inr (.inr (.inl rfl))))).trans h.boxg,h.row.keep (fun g hg=>hk g (h.lt g _ hg) ((hm g).2 (.inr (.inr (.inr hg))))) (fun _ h=>h),h.lt.mono hw.size,h.ge⟩
theorem RT {pre:List ((Nat×Nat)×Nat)}{p:(Nat×Nat)×Nat}(h:Cp d y p.2=false):Bj d y (pre++[p])=Bj d y pre:=by unfold Bj;rw[Wl];simp[h]
theorem RU {pre:List ((Nat×Nat)×Nat)}{p:(Nat×Nat)×Nat}(h:Cp d y p.2=true):Bj d y (pre++[p])=Bj d y pre++[tnOf d y p.2]:=by unfold Bj;rw[Wl];simp[h]
theorem TurS.skip {pre:List ((Nat×Nat)×Nat)}{p:(Nat×Nat)×Nat}(h:TurS d y w sb pre M W v oG)(hp:Cp d y p.2=false):TurS d y w sb (pre++[p]) M W v oG :=
 ⟨h.mm,h.low,h.boxs,h.boxy,h.boxg,by rw[RT hp];exact h.row,h.lt,h.ge⟩
theorem TurS.add {pre:List ((Nat×Nat)×Nat)}{W1:Wd}{oG':Own}{p:(Nat×Nat)×Nat}(h:TurS d y w sb pre M W v oG)(hp:Cp d y p.2=true)
 (hr:RowR oG' W1 .slots 256 9 v' ((Bj d y pre).length+1) (((Bj d y pre).flatMap tnV)++tnV (tnOf d y p.2))) (hg:Chg (· = .slots) oG oG' W W1) (hl:Ab oG' W1) {n:Nat} (hn:n<=W.heap.size) :
 ∃ M',(∃ v oG,TurS d y w sb (pre++[p]) M' (W1.setCell (Av (w.heap.size+2)) v') v oG)/\Wr (fun k=>M k\/n<=k) W (W1.setCell (Av (w.heap.size+2)) v')/\∀ k,M' k->M k\/n<=k:=by
 have g0:w.heap.size+2<W.heap.size:=(Vm.1 h.boxg).1;have k0:=(hg.alien (by omega) (h.no w.heap.size (by omega))).trans h.boxs;have ky:=(hg.alien (by omega) (h.no (w.heap.size+1) (by omega))).trans h.boxy;have k1:=(hg.alien g0 (h.no (w.heap.size+2) (by omega))).trans h.boxg;have ge':∀ k r,oG' k=some r->r=.slots/\w.heap.size+3<=k:=fun k r hk=>by
  by_cases e:oG' k=oG k
  . rw[e] at hk;exact h.ge k r hk
  ·obtain⟨a1,q,a2,a3⟩:=hg.new k e;rw[hk] at a2;cases a2
   exact⟨a3,by omega⟩
 refine⟨fun k=>k=w.heap.size\/k=w.heap.size+1\/k=w.heap.size+2\/oG' k=some .slots,⟨v',oG',⟨fun k=>Iff.rfl,?_,?_,?_,A5 k1 _,?_,hl.mono (by simp[World.setCell]),ge'⟩⟩,?_,fun k hk=>?_⟩
 . have:Bw w W1:=h.low.trans ⟨hg.os,hg.tape,hg.output,hg.size,fun k hk=>hg.alien (VH hk h.low.size) (h.no k (by omega))⟩;exact this.setCell (p:=⟨w.heap.size+2,0,Option.none⟩) (by show _<=w.heap.size+2;omega) _
 . exact(A0 (by show _≠w.heap.size+2;omega) _).trans k0
 . exact(A0 (by show _≠w.heap.size+2;omega) _).trans ky
 . rw[RU hp,Vr,WU];simp only[WW,WO,List.flatMap_nil,WM];exact hr.setCell_other (fun e=>by have:=(ge' _ _ e).2;simp at this) _
 . have:Wr (fun k=>M k\/n<=k) W W1:=⟨hg.os,hg.tape,hg.output,hg.size,fun k hk hm=>hg.block k hk fun r hr e=>hm (.inl ((h.mm k).2 (.inr (.inr (.inr (by rw[hr,e]))))))⟩;exact this.setCell (p:=⟨w.heap.size+2,0,Option.none⟩) (.inl (.inl ((h.mm _).2 (.inr (.inr (.inl rfl)))))) _
 ·rcases hk with hk|hk|hk|hk
  . exact .inl ((h.mm k).2 (.inl hk))
  . exact .inl ((h.mm k).2 (.inr (.inl hk)))
  . exact .inl ((h.mm k).2 (.inr (.inr (.inl hk))))
  ·by_cases e:oG' k=oG k
   . rw[e] at hk;exact .inl ((h.mm k).2 (.inr (.inr (.inr hk))))
   . have:=(hg.new k e).1;right;omega
theorem LI (ht:∀ lo hi id,d.tab x (lo,hi)=some id->Aa d id=some ⟨x,lo,hi⟩)(hlt:∀ i b,Aa d i=some b->i<n){xs:List ((Nat×Nat)×Nat)}(hnd:(xs.map Prod.fst).Nodup)(hf:∀ k id,(k,id)∈xs->d.tab x k=some id):xs.length<=n:=by
 have h1:(xs.map Prod.snd).Nodup:=by
  rw[Xz,Xk];rw[Xz,Xk] at hnd;refine hnd.imp_of_mem fun {a b} ha hb g0 e=>g0 ?_
  have q1:=ht _ _ _ (hf a.1 a.2 ha);have q2:=ht _ _ _ (hf b.1 b.2 hb);rw[e,q2] at q1;cases a;cases b
  simp at q1;exact Prod.ext q1.1.symm q1.2.symm
 have h2:=E3 n (xs.map Prod.snd) h1 (fun i hi=>by
  obtain⟨q,hq,rfl⟩:=Vz.1 hi;exact hlt _ _ (ht _ _ _ (hf q.1 q.2 hq)))
 simpa using h2
theorem LJ:(prog.info? 256).map (fun i=>(i.zero,i.size,i.bytes))=some (some (.agg #[Iv 0,Iv 0,Iv 0,Iv 0,Iv 0,Iv 0,Iv 0,Iv 0,Iv 0]),9,72):=by kernel_rfl
theorem LK (N:RN)(ll lh hl hh:Nat):tnV ⟨N,ll,lh,hl,hh⟩=[Iv N.id,Iv N.v,Iv N.lo,Iv N.hi,Iv N.refs,Iv ll,Iv lh,Iv hl,Iv hh]:=rfl
theorem RW {o:Own}(h:A2 o w sb d)(hlt:Ab o w)(hk:Ak d V)(x y:Nat)(hx:x<d.vars.length) :
 Cl 216 #[Pt sb,Iv x,Iv y] w fun e w'=>∃ (v:Value) (ids:List Nat),e=.returned v/\ids.Nodup/\(∀ i,i∈ids↔Turns (Aa d) x y i)/\TRow w' w.heap.size v (ids.map (tnOf d y))/\Bw w w':=by
 obtain⟨s,h⟩:=h;obtain⟨gt,ct,hE,gF,hF,hG⟩:=h.tabAt hx;obtain⟨c0,c1,c2,c3,c4,f0⟩:=cells5 h.blk;rw[hE] at c2;obtain⟨t,ht⟩:=Ex (s.ts.getD x 0);rw[<- ht] at gF;have gv:=h.tab x hF;rw[<- ht] at gv;have hz:=Hd gv;have gr:=Hd h;have gu:=Hd hlt;have HK:=Hd hk;clear ht gv;have k3:(x:Int)<s.ts.length:=by omega
 obtain⟨w1,gC⟩:=Ex (((w.alloc (.cells #[Pt sb] 96)).alloc (.cells #[Iv y] 3)).alloc (.cells #[.slice none 0 0] 249));have HW1:Hq (_=w1):=Hd gC.symm;have gq:Bw w w1:=by rw[gC];exact((Af _ _).alloc (by simp) _).alloc (by simp;omega) _
 have c2':=Cq gq c2;have hu:=Cq gq gF;have cB:w1.cell? (Av w.heap.size)=some (Pt sb):=by rw[gC];exact cell1 ((Wv _ _ _ (by simp;omega)).trans ((Wv _ _ _ (by simp)).trans (Vq w _)))
 have HE:=Hd (fun t W=>RS t W);clear c0 c1 c2 c3 c4 f0 gF gC;refine(Yd (n:=9)).1 ?_;refine callsIn_of_wp_marks func216 rfl trivial ?_;refine wpIn_wide.2 ?_;simp only[ntmps216,WJ,VG,WI,Nat.reduceAdd,Nat.reduceSub,WZ,Xa,Xi,Xf,Wz,Xh];go_upto_region 2 with fail;rw[HW1.o];go_wp2_with fail;refine(HE.o _ _).mono ?_;rintro e w2 ⟨rfl,hC⟩;go_wp2_with fail;obtain⟨w2',g3⟩:=Ex (w1.alloc (.cells #[Pt t] 173));rw[<- g3];have h5:Bw w w2':=by rw[g3];exact gq.alloc gq.size _
 have hs1:w1.heap.size=w.heap.size+3:=by rw[<- HW1.o];simp
 have k9:w2'.heap.size=w.heap.size+4:=by rw[g3];simp[hs1]
 have hQ:w2'.heap[w.heap.size]?=some (.cells #[Pt sb] 96 (0,0)):=by rw[g3,<- HW1.o];exact(Wv _ _ _ (by simp<;>omega)).trans ((Wv _ _ _ (by simp<;>omega)).trans ((Wv _ _ _ (by simp)).trans (Vq w _)))
 have hP:w2'.heap[w.heap.size+1]?=some (.cells #[Iv y] 3 (0,0)):=by
  rw[g3,<- HW1.o];have h0:=Vq (w.alloc (.cells #[Pt sb] 96)) (.cells #[Iv y] 3);rw[VO] at h0;exact(Wv _ _ _ (by simp<;>omega)).trans ((Wv _ _ _ (by simp)).trans h0)
 have hR:w2'.heap[w.heap.size+2]?=some (.cells #[.slice none 0 0] 249 (0,0)):=by
  rw[g3,<- HW1.o];have h0:=Vq ((w.alloc (.cells #[Pt sb] 96)).alloc (.cells #[Iv y] 3)) (.cells #[.slice none 0 0] 249);rw[VO,VO] at h0;exact(Wv _ _ _ (by simp)).trans h0
 have h6:w2'.cell? (Av w1.heap.size)=some (Pt t):=by rw[g3];exact cell1 (Vq w1 _)
 have gG:=RR (d:=d) (x:=x) (fun lo hi id e=>(HK.o.tab x hx lo hi id).1 e) (n:=1048577) (fun i b e=>by have:=gr.o.tk_lt e;omega) (by omega);have HG:=Hd (RQ 8 w.heap.size w1.heap.size t x hz.o gu.o (Vo _) w2' h5 (by omega) (by omega) h6 gG);clear gG h6 g3 hC c2' hu cB HE hG gq;refine(wpIn_wide (n:=9)).1 ?_;refine Rw rfl (by omega) (gf:=268) (lb:=#[Pt w1.heap.size]) rfl trivial (XQ func268 (by kernel_rfl) rfl) HG.o (by omega) (by rintro k rfl;omega) (fun p=>rfl)
  (fun pre M W=>∃ v oG,TurS d y w sb pre M W v oG) ?_ ?_ (fun k=>k=w.heap.size\/k=w.heap.size+1\/k=w.heap.size+2) (by rintro k rfl h;omega) ⟨.slice none 0 0,fun _=>none,(⟨fun k=>by simp,h5,hQ,hP,hR,RowR.nil _ _ _ _ _,fun k r h=>(by cases h),fun k r h=>(by cases h)⟩:TurS d y w sb [] _ w2' (.slice none 0 0) (fun _=>none))⟩
  (fun p a' W W1=>a'={ tmps:=#[Value.pointer (some { block:=sb,off:=0 }),Value.int IntKind.i64 ↑x,Value.int IntKind.i64 ↑y,Value.pointer (some { block:=w.heap.size,off:=0 }),undef,Value.pointer (some { block:=w.heap.size+1,off:=0 }),Value.slice none 0 0,Value.pointer (some { block:=w.heap.size+1+1,off:=0 }),undef,Value.int IntKind.i64 ↑p.2,undef,undef,undef,Value.pointer (some { block:=sb,off:=0 }),Value.pointer (some { block:=sb,off:=0 }),Value.pointer (some { block:=sb,off:=2 }),Value.slice (some { block:=gt,off:=0 }) s.ts.length ct,Value.int IntKind.i64 ↑x,Value.pointer (some { block:=gt,off:=x }),Value.pointer (some { block:=t,off:=0 }),Value.func (Fn.func 268) #[] #[Value.pointer (some { block:=w.heap.size+3,off:=0 })],encE p.1,Value.int IntKind.i64 ↑p.2,undef,undef,undef,undef,undef,undef,undef,undef,undef,undef,undef,undef,undef,undef,undef,undef,undef,undef,undef,undef,undef,undef,undef,undef,undef,undef,undef,undef,undef,undef,undef,undef,undef,undef,undef,undef,undef,undef,undef,undef,undef,undef,undef,undef,undef,undef,undef,undef],defers:=[] }) ?_ ?_ ?_ ?_
 ·rintro pre M W ⟨v,oG,hS⟩ k hk;rcases(hS.mm k).1 hk with rfl|rfl|rfl|hg
  . exact⟨Vo _,(Vm.1 hS.boxs).1⟩
  . exact⟨by omega,(Vm.1 hS.boxy).1⟩
  . exact⟨by omega,(Vm.1 hS.boxg).1⟩
  . have:=(hS.ge k _ hg).2;exact⟨by omega,hS.lt k _ hg⟩
 . rintro pre M W W' ⟨v,oG,hS⟩ hw;exact⟨v,oG,hS.minds hw⟩
 . intro p a' W W1 W2 l _ h _;exact h
 ·intro l pre p M W K hI hK
  gi_wp2
  exact hK _ _ (Wr.refl _ _) rfl
 ·rintro l pre p a' M W0 W ⟨v,oG,hS⟩ rfl gZ k4 ⟨suf,gc,g0⟩;have gD:=LI (d:=d) (x:=x) (fun lo hi id e=>(HK.o.tab x hx lo hi id).1 e) (n:=1048577) (fun i b e=>by have:=gr.o.tk_lt e;omega) gc (fun k id h=>(g0 k id).1 h);have gE:(Bj d y pre).length<1000000000:=by
   have h1:(Bj d y pre).length<=pre.length:=by unfold Bj;rw[Vw];exact Wk _ _
   simp at gD;omega
  have gU:=Hd gE;clear gD gE gc;have hp:d.tab x p.1=some p.2:=(g0 p.1 p.2).1 (by simp);obtain⟨i,hi⟩:=Ex p.2;have gN:Aa d i=some ⟨x,p.1.1,p.1.2⟩:=(HK.o.tab x hx _ _ _).1 (by rw[hi];exact hp);obtain⟨gY,gP,gI⟩:=BM gN;rw[gP] at gI;obtain⟨N,hN⟩:=Ex (d.pool.nd i);have gM:=gr.o.below gu.o hS.low;have gO:=gu.o.mono hS.low.size;obtain⟨q0,q1,q2,q3,q4,_⟩:=cells5 gM.blk;have cs:=cell1 hS.boxs;have cy:=cell1 hS.boxy;have hd:=Hd (JM o s.pb d.pool i W gM.pool gO gY);rw[<- hN] at hd gI;rw[<- hi];have HI:=Hd hi;have HS:=Hd hS;have HN:=Hd hN;have hX:=Hd gI;have h7:=Hd gN;clear hS hi hN gI gN gM gO gY gP hp g0 q0 q2 q3 q4
  gi_wp2
  refine⟨trivial,(CallsIn.inRound l (Yd.2 hd.o)).mono ?_⟩;rintro e W3 ⟨rfl,gp⟩;have cs3:=Cq gp cs;have cy3:=Cq gp cy;simp only[Am];have lb0:w.heap.size<W3.heap.size:=Ah cs3;have lb1:w.heap.size+1<W3.heap.size:=Ah cy3;have lb2:w.heap.size+1+1<W3.heap.size:=VH (Vm.1 HS.o.boxg).1 gp.size;have gX:=Hd gp;clear gp cs cy q1
  gi_wp2
  obtain⟨W4,gh⟩:=Ex ((W3.alloc (.cells #[Iv N.id,Iv N.v,Iv N.lo,Iv N.hi,Iv N.refs] 254)).alloc (.cells #[Iv N.id,Iv N.v,Iv N.lo,Iv N.hi,Iv N.refs,Iv 0,Iv 0,Iv 0,Iv 0] 256));rw[<- gh];have n4:W4.heap[W3.heap.size]?=some (.cells #[Iv N.id,Iv N.v,Iv N.lo,Iv N.hi,Iv N.refs] 254 (0,0)):=by rw[gh];exact(Wv _ _ _ (by simp)).trans (Vq W3 _)
  have t4:W4.heap[W3.heap.size+1]?=some (.cells #[Iv N.id,Iv N.v,Iv N.lo,Iv N.hi,Iv N.refs,Iv 0,Iv 0,Iv 0,Iv 0] 256 (0,0)):=by
   rw[gh];have:=Vq (W3.alloc (.cells #[Iv N.id,Iv N.v,Iv N.lo,Iv N.hi,Iv N.refs] 254)) (.cells #[Iv N.id,Iv N.v,Iv N.lo,Iv N.hi,Iv N.refs,Iv 0,Iv 0,Iv 0,Iv 0] 256);rw[VO] at this;exact this
  have gz:Hq (Wr (fun _=>False) W W4):=by rw[gh];exact Hd (((Wr.of_below gX.o (fun _=>False)).alloc _).alloc _)
  have hm:W.heap.size<=W3.heap.size:=gX.o.size;have gy:Bw W3 W4:=by rw[gh];exact(Af _ _).alloc (by simp) _
  obtain⟨b1,gR⟩:=Ex W3.heap.size;have cs4:=(gy.cell (p:=Av w.heap.size) lb0).trans cs3;have cy4:=(gy.cell (p:=(Av (w.heap.size+1))) lb1).trans cy3;have gm:Hq (∀ Wc,Wr (fun _=>False) W Wc->TurS d y w sb pre M Wc v oG):=Hd fun Wc h=>HS.o.minds (h.mono fun k e=>e.elim)
  have gl:Hq (∀ Wc,Wr (fun _=>False) W Wc->A2 o Wc sb d/\Ab o Wc):=Hd fun Wc h=>⟨⟨s,gr.o.below gu.o (gm.o Wc h).low⟩,gu.o.mono (gm.o Wc h).low.size⟩
  have gw:okE (Aa d) N.lo/\okE (Aa d) N.hi:=by
   have e:=hX.o;have h1:=HK.o.dag.okLo _ _ h7.o;have h2:=HK.o.dag.okHi _ _ h7.o;have e1:p.1.1=N.lo:=by have:=Wb BN.lo e;exact this.symm
   have e2:p.1.2=N.hi:=by have:=Wb BN.hi e;exact this.symm
   dsimp only at h1 h2;rw[e1] at h1;rw[e2] at h2;exact⟨h1,h2⟩
  have hA:=Hd gw;obtain⟨⟨ll,lh⟩,g6⟩:∃ c,c=cofs d N.lo y:=⟨_,rfl⟩;obtain⟨⟨hl,hh⟩,gH⟩:∃ c,c=cofs d N.hi y:=⟨_,rfl⟩;have gB:=Hd (L5 (gl.o W4 gz.o).1 (gl.o W4 gz.o).2 HK.o N.lo gw.1 y);rw[<- g6] at gB;have hW:=Hd g6;have h8:=Hd gH;rw[<- gR] at n4 t4 hm ⊢;clear gh cs3 cy3 gw g6 gH gy gX gR lb0 lb1 lb2;refine⟨trivial,(CallsIn.inRound l (Yd.2 gB.o)).mono ?_⟩;rintro e W5 ⟨rfl,gg⟩;have lW4:b1+1<W4.heap.size:=(Vm.1 t4).1;have cs5:=Cq gg cs4;have cy5:=Cq gg cy4;have n5:=(gg.block b1 (by omega)).trans n4;have t5:=(gg.block (b1+1) lW4).trans t4;have hy:Hq (Wr (fun _=>False) W W5):=Hd (gz.o.trans (Wr.of_below gg (fun _=>False)) (fun _ _ e=>e) (fun _ _ e=>e));have f5:∀ q,W5.frozen? ⟨b1+1,q,none⟩=false:=fun q=>by simp[World.frozen?,t5]
  have k5:W5.cell? ⟨b1+1,5,none⟩=some (Iv 0):=by rw[Vp _ _ 5 _ _ _ t5];rfl
  have k6:W5.cell? ⟨b1+1,6,none⟩=some (Iv 0):=by rw[Vp _ _ 6 _ _ _ t5];rfl
  have m3:W5.cell? (Aw b1 3)=some (Iv N.hi):=by rw[Vp _ _ 3 _ _ _ n5];rfl
  have lW5:b1+1<W5.heap.size:=(Vm.1 t5).1;clear gg cs4 cy4 n4 t4 gB lW4
  gi_wp2
  obtain⟨W6,gK⟩:=Ex ((W5.setCell ⟨b1+1,5,none⟩ (Iv (ll:Nat))).setCell ⟨b1+1,6,none⟩ (Iv (lh:Nat)));rw[<- gK];have t6:W6.heap[b1+1]?=some (.cells #[Iv N.id,Iv N.v,Iv N.lo,Iv N.hi,Iv N.refs,Iv (ll:Nat),Iv (lh:Nat),Iv 0,Iv 0] 256 (0,0)):=by
   rw[gK];exact A5 (k:=6) (A5 (k:=5) t5 (Iv (ll:Nat))) (Iv (lh:Nat))
  have gj:Hq (Wr (fun _=>False) W W6):=by rw[gK];exact Hd ((hy.o.setCell (p:=⟨b1+1,5,none⟩) (.inr (by show W.heap.size<=b1+1;omega)) _).setCell (p:=⟨b1+1,6,none⟩) (.inr (by show W.heap.size<=b1+1;omega)) _)
  have gi:=(gm.o W6 gj.o);have cs6:=cell1 gi.boxs;have cy6:=cell1 gi.boxy;have gA:=Hd (L5 (gl.o W6 gj.o).1 (gl.o W6 gj.o).2 HK.o N.hi hA.o.2 y);rw[<- h8.o] at gA;clear gK cs5 cy5 n5 t5 f5 k5 k6 m3 lW5 gi;refine⟨trivial,(CallsIn.inRound l (Yd.2 gA.o)).mono ?_⟩;rintro e W7 ⟨rfl,gQ⟩;have lW6:b1+1<W6.heap.size:=(Vm.1 t6).1;have t7:=(gQ.block (b1+1) lW6).trans t6;have hv:Hq (Wr (fun _=>False) W W7):=Hd (gj.o.trans (Wr.of_below gQ (fun _=>False)) (fun _ _ e=>e) (fun _ _ e=>e));have f7:∀ q,W7.frozen? ⟨b1+1,q,none⟩=false:=fun q=>by simp[World.frozen?,t7]
  have k5:W7.cell? ⟨b1+1,5,none⟩=some (Iv (ll:Nat)):=by rw[Vp _ _ 5 _ _ _ t7];rfl
  have k6:W7.cell? ⟨b1+1,6,none⟩=some (Iv (lh:Nat)):=by rw[Vp _ _ 6 _ _ _ t7];rfl
  have k7:W7.cell? ⟨b1+1,7,none⟩=some (Iv 0):=by rw[Vp _ _ 7 _ _ _ t7];rfl
  have k8:W7.cell? ⟨b1+1,8,none⟩=some (Iv 0):=by rw[Vp _ _ 8 _ _ _ t7];rfl
  have lW7:b1+1<W7.heap.size:=(Vm.1 t7).1;clear gQ cs6 cy6 t6 gA lW6;obtain⟨W8,gJ⟩:=Ex ((W7.setCell ⟨b1+1,7,none⟩ (Iv (hl:Nat))).setCell ⟨b1+1,8,none⟩ (Iv (hh:Nat)));have t8:W8.heap[b1+1]?=some (.cells #[Iv N.id,Iv N.v,Iv N.lo,Iv N.hi,Iv N.refs,Iv (ll:Nat),Iv (lh:Nat),Iv (hl:Nat),Iv (hh:Nat)] 256 (0,0)):=by
   rw[gJ];exact A5 (k:=8) (A5 (k:=7) t7 (Iv (hl:Nat))) (Iv (hh:Nat))
  have ga:Hq (Wr (fun _=>False) W W8):=by rw[gJ];exact Hd ((hv.o.setCell (p:=⟨b1+1,7,none⟩) (.inr (by show W.heap.size<=b1+1;omega)) _).setCell (p:=⟨b1+1,8,none⟩) (.inr (by show W.heap.size<=b1+1;omega)) _)
  have g2:=Hd (gm.o W8 ga.o);have g8:=cell1 g2.o.boxg;have r0:W8.cell? (Av (b1+1))=some (Iv N.id):=by rw[Vp _ _ 0 _ _ _ t8];rfl
  have r1:W8.cell? ⟨b1+1,1,none⟩=some (Iv N.v):=by rw[Vp _ _ 1 _ _ _ t8];rfl
  have r2:W8.cell? ⟨b1+1,2,none⟩=some (Iv N.lo):=by rw[Vp _ _ 2 _ _ _ t8];rfl
  have r3:W8.cell? ⟨b1+1,3,none⟩=some (Iv N.hi):=by rw[Vp _ _ 3 _ _ _ t8];rfl
  have r4:W8.cell? ⟨b1+1,4,none⟩=some (Iv N.refs):=by rw[Vp _ _ 4 _ _ _ t8];rfl
  have r5:W8.cell? ⟨b1+1,5,none⟩=some (Iv (ll:Nat)):=by rw[Vp _ _ 5 _ _ _ t8];rfl
  have r6:W8.cell? ⟨b1+1,6,none⟩=some (Iv (lh:Nat)):=by rw[Vp _ _ 6 _ _ _ t8];rfl
  have r7:W8.cell? ⟨b1+1,7,none⟩=some (Iv (hl:Nat)):=by rw[Vp _ _ 7 _ _ _ t8];rfl
  have r8:W8.cell? ⟨b1+1,8,none⟩=some (Iv (hh:Nat)):=by rw[Vp _ _ 8 _ _ _ t8];rfl
  have hU:Hq (_=W8):=Hd gJ.symm;have kd:Hq (b1+1<W8.heap.size):=Hd (Vm.1 t8).1;clear gJ t8;have tin:tnOf d y i=⟨N,ll,lh,hl,hh⟩:=by
   unfold tnOf;rw[<- HN.o,<- hW.o,<- h8.o]
  have gk:=Hd tin;clear tin
  gi_upto_region 8 with fail
  rw[hU.o];clear t7 f7 k5 k6 k7 k8 lW7
  by_cases g4:ll≠lh\/hl≠hh
  ·have gL:Hq (Cp d y p.2=true):=Hd (by rw[<- HI.o];unfold Cp;rw[gk.o];exact We g4);have n1:((ll:Int) != lh)=true\/((ll:Int) != lh)=false:=by cases ((ll:Int) != lh)<;>simp
   have n2:((ll:Int) != lh)=false->((hl:Int) != hh)=true:=fun e=>by
    have ka:(ll:Int)=lh:=by simpa using e
    have h1:ll=lh:=by omega
    have h2:=g4.resolve_left (fun h=>h h1);simp;omega
   rcases n1 with n1|n1
   ·clear n2
    gi_wp2_with (gi_at_builtin
                 refine ID (wr:=W8) 249 256 9 72 _ underlying249 LJ rfl (by decide) rfl _ _ rfl rfl rfl rfl rfl rfl (by simp[Value.oneCell']) g2.o.row g2.o.lt gU.o (by decide) ?_;intro g1 k1 w1 o1 gn g6 go;have gT:=Hd gn;have gd:=Hd g6;have gV:=Hd go;clear gn g6 go;have g5:=(gd.o.alien (Vm.1 g2.o.boxg).1 (g2.o.no _ (by omega))).trans g2.o.boxg;have cg1:=cell1 g5;have fz:∀ k,w1.frozen? ⟨w.heap.size+2,k,none⟩=false:=fun k=>by simp[World.frozen?,g5]
                 clear g8 g5)
    obtain⟨M',a1,a2,a3⟩:=g2.o.add gL.o (W1:=w1) (v':=.slice (some (Av g1)) ((Bj d y pre).length+1) k1) (by
     rw[<- HI.o,gk.o,LK];exact gT.o) gd.o gV.o (n:=W0.heap.size) (Vx gZ ga.o.size)
    exact⟨M',a1,Wr.trans ga.o a2 (fun _ _ e=>e.elim) (fun _ _ e=>e),a3⟩
   ·have n3:=n2 n1;clear n2
    gi_wp2_with (gi_at_builtin
                 refine ID (wr:=W8) 249 256 9 72 _ underlying249 LJ rfl (by decide) rfl _ _ rfl rfl rfl rfl rfl rfl (by simp[Value.oneCell']) g2.o.row g2.o.lt gU.o (by decide) ?_;intro g1 k1 w1 o1 gn g6 go;have gT:=Hd gn;have gd:=Hd g6;have gV:=Hd go;clear gn g6 go;have g5:=(gd.o.alien (Vm.1 g2.o.boxg).1 (g2.o.no _ (by omega))).trans g2.o.boxg;have cg1:=cell1 g5;have fz:∀ k,w1.frozen? ⟨w.heap.size+2,k,none⟩=false:=fun k=>by simp[World.frozen?,g5]
                 clear g8 g5)
    obtain⟨M',a1,a2,a3⟩:=g2.o.add gL.o (W1:=w1) (v':=.slice (some (Av g1)) ((Bj d y pre).length+1) k1) (by
     rw[<- HI.o,gk.o,LK];exact gT.o) gd.o gV.o (n:=W0.heap.size) (Vx gZ ga.o.size)
    exact⟨M',a1,Wr.trans ga.o a2 (fun _ _ e=>e.elim) (fun _ _ e=>e),a3⟩
  ·have gL:Hq (Cp d y p.2=false):=Hd (by rw[<- HI.o];unfold Cp;rw[gk.o];exact VU g4);have n1:((ll:Int) != lh)=false:=by
    have:ll=lh:=Decidable.byContradiction fun h=>g4 (.inl h)
    simp[this]
   have n2:((hl:Int) != hh)=false:=by
    have:hl=hh:=Decidable.byContradiction fun h=>g4 (.inr h)
    simp[this]
   clear g4
   gi_wp2
   exact⟨M,⟨v,oG,g2.o.skip gL.o⟩,ga.o.mono (fun _ e=>e.elim),fun k hk=>.inl hk⟩
 ·rintro xs D M W ⟨gc,g0⟩ hD gS ⟨v,oG,hS⟩ hM hw gx;have g9:=cell1 hS.boxg;have HS:=Hd hS;have kb:=Hd gc;have hY:=Hd g0;have g7:=hS.low;have hZ:D<W.heap.size:=(Vm.1 gx).1;have hB:=Hd gx;have kc:=Hd gS;have HF:Hq (∃ (v':Value) (ids:List Nat),Ending.returned v=.returned v'/\ids.Nodup/\(∀ i,i∈ids↔Turns (Aa d) x y i)/\TRow (W.putObj D (.deferred none)) w.heap.size v' (ids.map (tnOf d y))/\Bw w (W.putObj D (.deferred none))):=by
   refine Hd ⟨v,(xs.filter fun p=>Cp d y p.2).map Prod.snd,rfl,?_,fun i=>?_,?_,?_⟩
   ·rw[Xz,Xk];have h1:=gc;rw[Xz,Xk] at h1;refine(h1.sublist List.filter_sublist).imp_of_mem fun {a b} ha hb hL e=>hL ?_
    have q1:=(HK.o.tab x hx a.1.1 a.1.2 a.2).1 ((g0 a.1 a.2).1 ((WD.1 ha).1));have q2:=(HK.o.tab x hx b.1.1 b.1.2 b.2).1 ((g0 b.1 b.2).1 ((WD.1 hb).1));rw[e,q2] at q1;obtain⟨⟨a1,a2⟩,a3⟩:=a;obtain⟨⟨b1,b2⟩,b3⟩:=b;simp at q1;exact Prod.ext q1.1.symm q1.2.symm
   ·rw[Vz];constructor
    . rintro⟨q,hq,rfl⟩;obtain⟨hJ,hH⟩:=WD.1 hq;have hn:=(HK.o.tab x hx q.1.1 q.1.2 q.2).1 ((g0 q.1 q.2).1 hJ);exact(IL HK.o hn rfl).1 hH
    . intro hT;obtain⟨b,hb,h4,_⟩:=id hT;have ht:=(HK.o.tab x hx b.lo b.hi i).2 (by rw[hb,<- h4]);exact⟨((b.lo,b.hi),i),WD.2 ⟨(g0 _ _).2 ht,(IL HK.o hb h4).2 hT⟩,rfl⟩
   ·have e':((xs.filter fun p=>Cp d y p.2).map Prod.snd).map (tnOf d y)=Bj d y xs:=by unfold Bj;rw[Xe];rfl
    rw[e'];have k0:=LI (d:=d) (x:=x) (fun lo hi id e=>(HK.o.tab x hx lo hi id).1 e) (n:=1048577) (fun i b e=>by have:=gr.o.tk_lt e;omega) gc (fun k id h=>(g0 k id).1 h);have ho:(Bj d y xs).length<=1048578:=by
     have h1:(Bj d y xs).length<=xs.length:=by unfold Bj;rw[Vw];exact Wk _ _
     omega
    obtain⟨ag,cpg,rfl,_⟩:=hS.row.slice;refine⟨ho,ag,cpg,rfl,fun k hk=>?_⟩;obtain⟨g,cp,he,h3,_⟩:=hS.row.shape (by omega);cases he;have hO:g≠D:=fun e=>gS ((hS.mm D).2 (.inr (.inr (.inr (e ▸ h3)))))
    refine⟨g,rfl,by have:=(hS.ge g _ h3).2;omega,fun j u hj=>?_⟩;have h9:j<9:=by have:=(Wf.1 hj).1;simpa [tnV,rnV] using this
    have hf:=DD tnV 9 (fun _=>rfl) (Bj d y xs) k j _ (VD hk) h9;have hr:((Bj d y xs).flatMap tnV).length=(Bj d y xs).length*9:=Cb _ 9 (fun _=>rfl) _;have hc:=hS.row.cell (k*9+j) (by rw[hr];omega);have gH:W.cell? (Aw g (k*9+j))=some u:=hc.trans (hf.trans hj);exact(Co gH (Ww hO))
   . exact⟨g7.os,g7.tape,g7.output,by simpa using g7.size,fun q hq=>(Ww (by omega)).trans (g7.block q hq)⟩
  clear hS gc g0 gx hM hw gS g7;go_wp2_with fail;refine⟨by simp,.inl ⟨D,_,rfl,run_takeDeferred hB.o,?_⟩⟩;refine⟨_,results_tmp rfl _ _ _,?_⟩;exact HF.o
structure SwV (d0:Ae)(k x y:Nat):Prop where
 k1:k+1<d0.vars.length
 x:d0.vars.getD k 0=x
 y:d0.vars.getD (k+1) 0=y
section
variable {gone:Nat->Prop}
theorem SwV.facts (s:SwV d0 k x y)(hk:Ak d0 V0):x<d0.vars.length/\y<d0.vars.length/\levN d0 x=k/\levN d0 y=k+1/\x≠y:=by
 obtain⟨a1,a2⟩:=hk.vlt k (by have:=s.k1;omega);obtain⟨c1,c2⟩:=hk.vlt (k+1) s.k1;rw[s.x] at a1 a2;rw[s.y] at c1 c2;exact⟨a1,c1,a2,c2,by rintro rfl;omega⟩
structure CutS (d0:Ae)(k x:Nat)(gone:Nat->Prop)(d:Ae):Prop where
 vars:d.vars=(Be d0 k).vars
 level:d.level=(Be d0 k).level
 pool:d.pool=d0.pool
 counts:d.counts=d0.counts
 dead:d.dead=d0.dead
 tabO:∀ v,v≠x->d.tab v=d0.tab v
 tabX:∀ lo hi id,d.tab x (lo,hi)=some id↔d0.tab x (lo,hi)=some id/\¬ gone id
theorem CutS.start (d0:Ae)(k x:Nat):CutS d0 k x (fun _=>False) (Be d0 k):=⟨rfl,rfl,rfl,rfl,rfl,fun _ _=>rfl,fun lo hi id=>by simp[Be]⟩
theorem CutS.next (c:CutS d0 k x gone d)(hk:Ak d0 V0)(hx:x<d0.vars.length)(hti:d0.tab x (lo,hi)=some i):CutS d0 k x (fun j=>gone j\/j=i) { d with tab:=fun u=>if u=x then putF (d.tab u) (lo,hi) none else d.tab u }:=by
 refine⟨c.vars,c.level,c.pool,c.counts,c.dead,fun v hv=>by dsimp only;rw[Vn hv];exact c.tabO v hv,fun lo' g0 id=>?_⟩;dsimp only;rw[Vs rfl];unfold putF
 by_cases e:(lo',g0)=(lo,hi)
 ·cases e;rw[Vs rfl,hti];constructor
  . intro h;cases h
  . rintro⟨h1,h2⟩;cases h1;exact(h2 (.inr rfl)).elim
 ·rw[Vn e,c.tabX];constructor
  ·rintro⟨h1,h2⟩;refine⟨h1,fun h3=>?_⟩;rcases h3 with h3|h3
   . exact h2 h3
   . subst h3;have q1:=(hk.tab x hx _ _ _).1 h1;have q2:=(hk.tab x hx _ _ _).1 hti;rw[q1] at q2;cases q2;exact e rfl
  . rintro⟨h1,h2⟩;exact⟨h1,fun h3=>h2 (.inl h3)⟩
theorem CutS.has (c:CutS d0 k x gone d)(h:d0.tab x (lo,hi)=some i)(hg:¬ gone i):d.tab x (lo,hi)=some i:=(c.tabX _ _ _).2 ⟨h,hg⟩
theorem A4.start (c:CutS d0 k x gone d)(hk:Ak d0 V0)(hx:x<d0.vars.length)(hd:d0.dead=0)(hg:∀ i,Turns (Aa d0) x y i↔gone i){ps:List (Nat×Nat)}(hw:BS (d0.tab x) ps Wt):A4 d0 V0 k x y Wt (Aj d0) (fun _=>False) d V0:=by
 have hn:Aa d=Aa d0:=by unfold Aa;rw[c.pool]
 have he:Aj d=Aj d0:=by unfold Aj;rw[c.pool]
 have hc:Ai d=Ai d0:=by unfold Ai;rw[c.counts]
 refine⟨by rw[hn];exact B4.start hk.dag x y,c.vars,c.level,by rw[c.pool],he,⟨by rw[hn,hc,c.pool];exact hk.live.cnt,by rw[hn,hc,c.pool,c.dead];exact hk.live.dead,by rw[hn,c.counts];exact hk.live.has⟩,
  fun v hv g0 lo hi id=>by rw[c.tabO v g0,hn];exact hk.tab v hv lo hi id,fun lo hi id=>by rw[c.tabX,hn,hk.tab x hx,hg],by rw[c.counts];exact hk.clen,fun i hT=>?_,?_⟩
 . obtain⟨b,hb,_⟩:=hT;rw[hc];exact Gg hk.live hd hb
 ·rw[c.pool];have:(Wt.filter fun κ=>(d.tab x κ).isSome)=[]:=by
   rw[List.filter_eq_nil_iff];intro κ hκ;cases e:d.tab x κ with
   | none=>simp
   | some id =>
     have h1:=((c.tabX κ.1 κ.2 id).1 e).1;have h2:=hw.free κ hκ;rw[h1] at h2;cases h2
  rw[this];rfl
theorem A4.congr {done done':Nat->Prop}(m:A4 d0 V0 k x y Wt E done d V)(h:∀ i,done i↔done' i):A4 d0 V0 k x y Wt E done' d V:=by
 have e:done=done':=funext fun i=>propext (h i)
 rw[<- e];exact m
theorem RX (s:SwV d0 k x y)(hk:Ak d0 V0)(hl:d0.level.length=d0.vars.length)(v:Nat):(Be d0 k).level.getD v 0=B0 (levN d0) x y v:=by
 obtain⟨hx,hy,lx,ly,g0⟩:=s.facts hk;unfold Be B0 levN;dsimp only;rw[s.x,s.y];unfold levN at lx ly;rw[lx,ly];simp only[List.getD,VR,VM]
 by_cases e1:v=x
 . subst e1;rw[Vn (Wi g0),Vs rfl,Vs (by omega),Vs rfl];rfl
 ·by_cases e2:v=y
  . subst e2;rw[Vs rfl,Vs (by omega),Vn e1,Vs rfl];rfl
  . rw[Vn (Wi e2),Vn (Wi e1),Vn e1,Vn e2]
theorem LL (s:SwV d0 k x y)(i:Nat):(Be d0 k).vars.getD i 0=if i=k then y else if i=k+1 then x else d0.vars.getD i 0:=by
 have h1:=s.k1;unfold Be;dsimp only;rw[s.x,s.y];simp only[List.getD,VR,VM]
 by_cases e1:i=k
 . subst e1;rw[Vn (by omega),Vs rfl,Vs (by omega),Vs rfl];rfl
 ·by_cases e2:i=k+1
  . subst e2;rw[Vs rfl,Vs h1,Vn e1,Vs rfl];rfl
  . rw[Vn (Wi e2),Vn (Wi e1),Vn e1,Vn e2]
theorem Gp (d0:Ae)(k:Nat):(Be d0 k).vars.length=d0.vars.length:=by simp[Be]
theorem A4.final {done:Nat->Prop}(m:A4 d0 V0 k x y Wt (Aj d0) done d V)(s:SwV d0 k x y)(hk:Ak d0 V0)(hl:d0.level.length=d0.vars.length)(hall:∀ i,Turns (Aa d0) x y i->done i):Ak d V:=by
 obtain⟨hx,hy,lx,ly,g2⟩:=s.facts hk;have g1:levN d=B0 (levN d0) x y:=by funext v;unfold levN;rw[m.level];exact RX s hk hl v
 have g0:d.vars.length=d0.vars.length:=by rw[m.vars,Gp]
 have g3:=m.mid.final hk.dag hx hy (by omega) hall;have g4:∀ v,v<d0.vars.length->(v=x/\B0 (levN d0) x y v=k+1)\/(v=y/\B0 (levN d0) x y v=k)\/(v≠x/\v≠y/\B0 (levN d0) x y v=levN d0 v/\levN d0 v≠k/\levN d0 v≠k+1):=by
  intro v hv
  by_cases e1:v=x
  . subst e1;exact .inl ⟨rfl,by rw[DX,ly]⟩
  ·by_cases e2:v=y
   . subst e2;exact .inr (.inl ⟨rfl,by rw[DY _ g2,lx]⟩)
   . exact .inr (.inr ⟨e1,e2,Fc _ e1 e2,fun h=>e1 (hk.dag.inj v x hv hx (by rw[h,lx])),fun h=>e2 (hk.dag.inj v y hv hy (by rw[h,ly]))⟩)
 refine⟨by rw[g0,g1];exact g3,by rw[m.ext];exact m.live,fun v hv lo hi id=>?_,m.clen,by rw[g0];exact hk.small,fun v hv=>?_,fun i hi=>?_⟩
 ·rw[g0] at hv
  by_cases e:v=x
  . subst e;rw[m.tabX];refine⟨fun h=>h.1,fun h=>⟨h,fun hT=>?_⟩⟩;obtain⟨_,b,hb,g5,_⟩:=m.mid.dn id (hall id hT);rw[h] at hb;cases hb;exact g2 g5
  . exact m.tabO v hv e lo hi id
 ·rw[g0] at hv;rw[g1,m.vars,LL s];rcases g4 v hv with ⟨rfl,e⟩|⟨rfl,e⟩|⟨_,_,e,h1,h2⟩
  . rw[e,Vn (by omega),Vs rfl]
  . rw[e,Vs rfl]
  . rw[e,Vn h1,Vn h2];exact hk.inv v hv
 ·rw[g0] at hi ⊢;rw[g1,m.vars,LL s]
  by_cases e1:i=k
  . rw[Vs e1];exact⟨hy,by rw[DY _ g2,lx,e1]⟩
  ·rw[Vn e1]
   by_cases e2:i=k+1
   . rw[Vs e2];exact⟨hx,by rw[DX,ly,e2]⟩
   . rw[Vn e2];obtain⟨h1,h2⟩:=hk.vlt i hi;refine⟨h1,?_⟩;rw[Fc _ (fun e=>e1 (by rw[<- h2,e,lx])) (fun e=>e2 (by rw[<- h2,e,ly]))];exact h2
structure Fg (d0:Ae)(V0:Nat->BF)(k:Nat)(d':Ae)(V':Nat->BF):Prop where
 ok:Ak d' V'
 vars:d'.vars=(Be d0 k).vars
 level:d'.level=(Be d0 k).level
 room:d'.pool.room=d0.pool.room
 dead:d'.dead=0
 val:∀ i,(i=0\/∃ b,Aa d0 i=some b)->V' i=V0 i
 live:∀ i b,Aa d0 i=some b->1<=Aj d0 i->∃ b',Aa d' i=some b'
 ext:∀ i b',Aa d' i=some b'->Aj d' i=Aj d0 i
theorem A4.o {done:Nat->Prop}(m:A4 d0 V0 k x y Wt (Aj d0) done d V)(hok:Ak d V)(r:AJ d d'):Fg d0 V0 k d' V:=by
 refine⟨r.ok hok,r.vars.trans m.vars,r.level.trans m.level,r.room.trans m.room,r.dead,m.mid.ext,fun i b hb he=>?_,fun i b' g0=>by rw[r.ext i b' g0,m.ext]⟩;obtain⟨b',g0⟩:=m.mid.has hb;refine⟨b',?_⟩;rw[r.nodes,Vs (hok.live.cnt.pos_of_ext g0 (by rw[m.ext];exact he))];exact g0
end
section
variable {done:Nat->Prop}{o:Own}
structure SwF (d0:Ae)(V0:Nat->BF)(k x y:Nat):Prop where
 v:SwV d0 k x y
 ok:Ak d0 V0
 lev:d0.level.length=d0.vars.length
 top:∀ i,Aj d0 i<=549755813888
theorem SwF.facts (f:SwF d0 V0 k x y):x<d0.vars.length/\y<d0.vars.length/\levN d0 x=k/\levN d0 y=k+1/\x≠y:=f.v.facts f.ok
theorem A4.acy (m:A4 d0 V0 k x y Wt E done d V)(f:SwF d0 V0 k x y):Acy (Aa d) (rkSw d0.vars.length (levN d0) (Aa d0) x y (Aa d)):=by
 obtain⟨hx,hy,lx,ly,g0⟩:=f.facts;exact R9 f.ok.dag hx (by omega) m.mid
theorem A4.vlen (m:A4 d0 V0 k x y Wt E done d V):d.vars.length=d0.vars.length:=by rw[m.vars,Gp]
theorem LM (h:Chg RCnt o o' w w'):Chg Al o o' w w':=h.mono Ih
theorem LN (st:A2 o w sb d)(hlt:Ab o w)(f:SwF d0 V0 k x y)(m:A4 d0 V0 k x y Wt E done d V)(he:midE d0.vars.length (levN d0) (Aa d0) (Aa d) x y e)(hE:∀ i,E i<=549755813898) :
 Cl 223 #[Pt sb,Iv e] w fun q w'=>q=.returned (.tuple #[])/\∃ d',A2 o w' sb d'/\Ab o w'/\A4 d0 V0 k x y Wt (addE E e 1) done d' V/\Aa d'=Aa d/\d'.pool=d.pool/\Chg Al o o w w':=by
 obtain⟨s,st⟩:=st;obtain⟨hx,hy,lx,ly,g0⟩:=f.facts;have ho:=L8 m.mid he;refine(If o sb s _ (2*(d0.vars.length-levN d0 x)) w d E e ⟨st,hlt,m.acy f,ho,m.live,fun q b _=>?_,?_⟩).mono ?_
 ·have h1:=hE q;have h2:toE e q<=1:=by unfold toE;split<;>omega
  omega
 ·rcases ho with h0|⟨c,hc⟩
  . exact .inl h0
  . right;have:=LC f.ok.dag hx (by omega) m.mid he hc;omega
 . rintro q w' ⟨cs,dd,rfl,h1,h2,h3,h4,_,h6⟩;exact⟨rfl,_,⟨s,h1⟩,hlt.mono h6.size,m.counts h2 h3 h4 (Vo _),rfl,rfl,LM h6⟩
theorem LO (st:A2 o w sb d)(hlt:Ab o w)(f:SwF d0 V0 k x y)(m:A4 d0 V0 k x y Wt E done d V)(hb:Aa d0 i=some b)(hbx:b.v=x)(he:e=b.lo\/e=b.hi)(hE:∀ i,E i<=549755813898)(hp:∀ i,0<=E i-toE e i) :
 Cl 226 #[Pt sb,Iv e] w fun q w'=>q=.returned (.tuple #[])/\∃ d',A2 o w' sb d'/\Ab o w'/\A4 d0 V0 k x y Wt (addE E e (-1)) done d' V/\Chg Al o o w w':=by
 obtain⟨s,st⟩:=st;obtain⟨hx,hy,lx,ly,g3⟩:=f.facts;have g1:okE (Aa d0) e:=by rcases he with rfl|rfl;exact f.ok.dag.okLo _ _ hb;exact f.ok.dag.okHi _ _ hb
 have g2:levN d0 b.v<lvE d0.vars.length (levN d0) (Aa d0) e:=by rcases he with rfl|rfl;exact f.ok.dag.lvLo _ _ hb;exact f.ok.dag.lvHi _ _ hb
 have ho:=E2 m.mid g1;have g6:=st.pool.top;have g4:=st.pool.room;refine(Ig o sb s _ (2*(d0.vars.length-levN d0 x)) w d E e ⟨st,hlt,m.acy f,ho,m.live,fun q c hc=>?_,fun q _ _=>hp q,?_⟩).mono ?_
 . have h1:=m.live.cnt.le hc;have h2:=hE q;omega
 ·rcases g1 with h0|⟨c0,g0⟩
  . exact .inl h0
  ·right;rw[Ff g0,hbx] at g2;have g5:=f.ok.dag.lt _ (f.ok.dag.var _ _ g0);rcases ho with h0|⟨c,hc⟩
   . rw[h0,f.ok.dag.none0] at g0;cases g0
   ·rcases IN m.mid g0 hc with ⟨_,hv,_⟩|⟨_,_,h3,_⟩
    . rw[hv] at g2;omega
    . omega
 . rintro q w' ⟨cs,dd,rfl,h1,h2,h3,h4,_,h6⟩;exact⟨rfl,_,⟨s,h1⟩,hlt.mono h6.size,m.counts h2 h3 h4 (Vo _),LM h6⟩
theorem LP (st:A2 o w sb d)(hlt:Ab o w)(hk:Ak d V) :
 Cl 215 #[Pt sb] w fun q w'=>q=.returned (Iv d.dead)/\∃ o' d',A2 o' w' sb d'/\Ab o' w'/\AJ d d'/\Chg Al o o' w w':=by
 by_cases h0:d.dead=0
 . refine(Lp st h0).mono ?_;rintro q w' ⟨rfl,hb⟩;obtain⟨s,st⟩:=st;exact⟨by rw[h0];rfl,o,d,⟨s,st.below hlt hb⟩,hlt.mono hb.size,AJ.none hk h0,Chg.of_below hb _ _⟩
 . exact Lq st hlt hk h0
end
section
variable {o:Own}
structure Box (o:Own)(w:Wd)(b:Nat)(O:Obj):Prop where
 blk:w.heap[b]?=some O
 no:o b=none
theorem Box.chg {b:Nat}{O:Obj}(h:Box o w b O)(hc:Chg R o o' w w'):Box o' w' b O :=
 ⟨(hc.alien (Vm.1 h.blk).1 h.no).trans h.blk,hc.alien' (Vm.1 h.blk).1 h.no⟩
theorem Box.cell {b:Nat}{cs:Array Value}{T:TypeId}(h:Box o w b (.cells cs T (0,0)))(i:Nat):w.cell? (Aw b i)=cs[i]?:=Vp w b i _ _ _ h.blk
theorem Box.other {b:Nat}{O:Obj}{p:Addr}(h:Box o w b O)(hne:b≠p.block):Box o (w.setCell p u) b O:=⟨(A0 hne _).trans h.blk,h.no⟩
theorem Box.set {b:Nat}{cs:Array Value}(h:Box o w b (.cells cs T (0,0)))(i:Nat)(u:Value):Box o (w.setCell (Aw b i) u) b (.cells (cs.setIfInBounds i u) T (0,0)) :=
 ⟨A5 h.blk u,h.no⟩
theorem TRow.chg (h:TRow w base v ts)(hc:Chg R o o' w w')(hn:0<ts.length->∀ g,v.ownBlock=some g->o g=none):TRow w' base v ts:=by
 by_cases hp:0<ts.length
 . exact h.keep fun g _ hg hv=>hc.alien hg (hn hp g hv)
 . obtain⟨a,c,h1,_⟩:=h.ex;exact⟨h.small,a,c,h1,fun k hk=>by omega⟩
theorem TRow.blk (h:TRow w base v ts)(hp:0<ts.length):∀ g,v.ownBlock=some g->base<=g/\g<w.heap.size:=by
 obtain⟨a,c,rfl,h1⟩:=h.ex;obtain⟨g0,rfl,hb,hc⟩:=h1 0 hp;intro g hg;cases hg;exact⟨hb,Ah (hc 0 _ rfl)⟩
end
structure RndI (sb:Nat)(o1:Own)(w1:Wd)(base:Nat)(v:Value)(ts:List TN)(W:Wd)(o:Own)(d:Ae):Prop where
 st:A2 o W sb d
 lt:Ab o W
 row:TRow W base v ts
 no:0<ts.length->∀ g,v.ownBlock=some g->o g=none
 chg:Chg Al o1 o w1 W
section
variable {o:Own}
theorem RndI.move (h:RndI sb o1 w1 base v ts W o d)(st:A2 o' W' sb d')(lt:Ab o' W')(hc:Chg R o o' W W')(hR:∀ r,R r->Al r):RndI sb o1 w1 base v ts W' o' d' :=
 ⟨st,lt,h.row.chg hc h.no,fun hp g hg=>hc.alien' (h.row.blk hp g hg).2 (h.no hp g hg),h.chg.trans (hc.mono hR)⟩
theorem RndI.below (h:RndI sb o1 w1 base v ts W o d)(hb:Bw W W'):RndI sb o1 w1 base v ts W' o d :=
 h.move (R:=Al) (h.st.below h.lt hb) (h.lt.mono hb.size) (Chg.of_below hb _ _) (fun _ h=>h)
theorem RndI.write (h:RndI sb o1 w1 base v ts W o d){b:Nat}(hb:o b=none)(h1:w1.heap.size<=b)(hv:∀ g,0<ts.length->v.ownBlock=some g->g≠b)(i:Nat)(u:Value):RndI sb o1 w1 base v ts (W.setCell (Aw b i) u) o d:=by
 refine⟨h.st.keepR (fun g r hg _=>A0 (by rintro rfl;rw[hb] at hg;cases hg) _) (fun _ _ h=>h),h.lt.mono (by simp[World.setCell]),?_,h.no,h.chg.setCell_new h1 u⟩
 by_cases hp:0<ts.length
 . exact h.row.keep fun g _ _ hg=>A0 (hv g hp hg) _
 . obtain⟨a,c,h2,_⟩:=h.row.ex;exact⟨h.row.small,a,c,h2,fun k hk=>by omega⟩
end
section
variable {done:Nat->Prop}
theorem RY (E:Nat->Int)(a b lo hi:Nat):addE (addE (addE (addE (addE (addE E lo 1) hi 1) a 1) b 1) lo (-1)) hi (-1)=addE (addE E a 1) b 1:=by
 funext i;unfold addE;omega
theorem RZ (E:Nat->Int)(a b:Nat):addE (addE (addE (addE E a 1) b 1) a (-1)) b (-1)=E:=by
 funext i;unfold addE;omega
theorem Sa {n:RN}(hk:i<d.pool.at_.length)(ht:d.pool.tk i=true):Aa { d with pool:=d.pool.setNd i n }=setN (Aa d) i (bnOf n):=by
 funext j;unfold Aa setN;rw[Ad.setNd_get hk ht]
 by_cases e:j=i
 . rw[Vs e,Vs e];rfl
 . rw[Vn e,Vn e]
theorem Sb {n:RN}(hk:i<d.pool.at_.length)(ht:d.pool.tk i=true)(he:(n.refs:Int)=Aj d i):Aj { d with pool:=d.pool.setNd i n }=Aj d:=by
 funext j;have hb:Aj d i=((d.pool.nd i).refs:Int):=CS ht;unfold Aj;have h1:(d.pool.setNd i n).tk j=d.pool.tk j:=rfl;have h2:(d.pool.setNd i n).nd j=if j=i then n else d.pool.nd j:=Dd hk j
 dsimp only;rw[h1,h2]
 by_cases e:j=i
 . subst e;rw[Vs rfl,he,hb]
 . rw[Vn e]
theorem A4.turned {n:RN}(m:A4 d0 V0 k x y Wt (addE (addE (Aj d0) lo 1) hi 1) done d V)(f:SwF d0 V0 k x y)(hT:Turns (Aa d0) x y i)(hd:¬ done i)(hb:Aa d0 i=some b)
 (hlo:midE d0.vars.length (levN d0) (Aa d0) (Aa d) x y lo) (hhi:midE d0.vars.length (levN d0) (Aa d0) (Aa d) x y hi) (hr:hi%2=0) (hne:lo≠hi) (hV:V0 i=iteF y (ef V hi) (ef V lo))
 (hn:bnOf n=⟨y,lo,hi⟩) (hrf:(n.refs:Int)=Aj d0 i) (hk:i<d.pool.at_.length) :
 d.tab y (lo,hi)=none/\A4 d0 V0 k x y Wt (addE (addE (Aj d0) b.lo 1) b.hi 1) (fun j=>done j\/j=i) { d with pool:=d.pool.setNd i n,tab:=fun u=>if u=y then putF (d.tab y) (lo,hi) (some i) else d.tab u } V:=by
 obtain⟨hx,hy,lx,ly,g0⟩:=f.facts;have g1:Aa d i=some b:=m.mid.keep i b hb hd;have ht:=(BM g1).1;refine⟨m.fresh_y f.ok.dag g0 hy hT hd hV,?_⟩;have h1:=m.set (p':=d.pool.setNd i n) g0 f.ok.dag hy hT hd hb hlo hhi hr hne hV (by rw[Sa hk ht,hn]) (Sb hk ht (by rw[hrf,m.ext])) rfl rfl (by simp[Ad.setNd]);rw[RY] at h1;have e:(fun u=>if u=y then putF (d.tab u) (lo,hi) (some i) else d.tab u)=(fun u=>if u=y then putF (d.tab y) (lo,hi) (some i) else d.tab u):=by
  funext u;by_cases e:u=y
  . subst e;rfl
  . rw[Vn e,Vn e]
 rw[e] at h1;exact h1
end
theorem Sc {o:Own}(h:RndI sb o1 w1 base v ts W o d)(st:Ao o W sb d s){n:RN}(ht:d.pool.tk n.id=true){O1 O2:Obj}{b1 b2:Nat}(x1:Box o W b1 O1)(x2:Box o W b2 O2) :
 Cl 224 #[Pt s.pb,Am n] W fun e w'=>∃ q,e=.returned q/\(q=Iv 0/\RndI sb o1 w1 base v ts w' o { d with pool:=d.pool.setNd n.id n }/\Ao o w' sb { d with pool:=d.pool.setNd n.id n } s/\Box o w' b1 O1/\Box o w' b2 O2):=by
 refine(GL o s.pb d.pool n W st.pool h.lt ht).mono ?_;rintro e w' ⟨rfl,hp,hc,g0⟩;have st':=st.setPool h.lt hp (hc.mono (fun r hr=>by simp[Bt,hr]));exact⟨_,rfl,rfl,h.move ⟨s,st'⟩ g0 hc Ii,st',x1.chg hc,x2.chg hc⟩
theorem Sd {o:Own}(h:RndI sb o1 w1 base v ts W o d)(st:Ao o W sb d s)(hy:y<s.ts.length)(hf:d.tab y (lo,hi)=none){O1 O2:Obj}{b1 b2:Nat}(x1:Box o W b1 O1)(x2:Box o W b2 O2) :
 Cl 225 #[.pointer (some ⟨s.ts.getD y 0,0,none⟩),Iv lo,Iv hi,Iv id] W fun e w'=>∃ q,e=.returned q/\(q=Iv 0/\RndI sb o1 w1 base v ts w' o { d with tab:=fun u=>if u=y then putF (d.tab y) (lo,hi) (some id) else d.tab u }/\Box o w' b1 O1/\Box o w' b2 O2):=by
 refine(JT o y (s.ts.getD y 0) (d.tab y) lo hi id W (st.tab y hy) h.lt hf).mono ?_;rintro e w' ⟨rfl,ht,hc,g0⟩;have st':=st.setTab h.lt ht hc;exact⟨_,rfl,rfl,h.move ⟨s,st'⟩ g0 hc (fun r hr=>by simp[Al,hr]),x1.chg hc,x2.chg hc⟩
structure IS (d0:Ae)(V0:Nat->BF)(x y i:Nat)(b:BN):Prop where
 node:Aa d0 i=some b
 v:b.v=x
 lo:(d0.pool.nd i).lo=b.lo
 hi:(d0.pool.nd i).hi=b.hi
 id:(d0.pool.nd i).id=i
 val:IP d0 V0 x y i (tnOf d0 y i).ll (tnOf d0 y i).lh (tnOf d0 y i).hl (tnOf d0 y i).hh
 ne:(tnOf d0 y i).ll≠(tnOf d0 y i).lh\/(tnOf d0 y i).hl≠(tnOf d0 y i).hh
theorem Se {o:Own}(f:SwF d0 V0 k x y)(h:Ao o w sb d0 s)(hT:Turns (Aa d0) x y i):∃ b,IS d0 V0 x y i b:=by
 obtain⟨hx,hy,lx,ly,g2⟩:=f.facts;obtain⟨b,hb,g0,g3⟩:=id hT;obtain⟨ht,g1,he⟩:=BM hb;rw[g1] at he;have e1:(d0.pool.nd i).lo=b.lo:=by rw[<- he];rfl
 have e2:(d0.pool.nd i).hi=b.hi:=by rw[<- he];rfl
 refine⟨b,hb,g0,e1,e2,h.pool.id i ht,?_,?_⟩
 . have:=RE f.ok hy (by omega) hb g0;unfold tnOf;rw[e1,e2];exact this
 . have:=(IL f.ok hb g0).2 hT;unfold Cp at this;exact Ya this
structure Fh (d0:Ae)(V0:Nat->BF)(k x y:Nat)(Wt:List (Nat×Nat))(done:Nat->Prop)(i:Nat)(r1 r2:Nat)(d:Ae)(V:Nat->BF):Prop where
 mid:A4 d0 V0 k x y Wt (Aj d0) done d V
 e1:midE d0.vars.length (levN d0) (Aa d0) (Aa d) x y r1
 e2:midE d0.vars.length (levN d0) (Aa d0) (Aa d) x y r2
 reg:r2%2=0
 ne:r1≠r2
 val:V0 i=iteF y (ef V r2) (ef V r1)
theorem Fh.of {done:Nat->Prop}{r1 r2:Nat}{d1 d2:Ae}{V1 V2:Nat->BF}(f:SwF d0 V0 k x y)(t:IS d0 V0 x y i b)
 (h1:CB d0 V0 k x y Wt done d V (tnOf d0 y i).ll (tnOf d0 y i).hl r1 d1 V1) (h2:CB d0 V0 k x y Wt done d1 V1 (tnOf d0 y i).lh (tnOf d0 y i).hh r2 d2 V2):Fh d0 V0 k x y Wt done i r1 r2 d2 V2:=by
 obtain⟨hx,hy,lx,ly,g0⟩:=f.facts;obtain⟨k1,k2⟩:=h2.keep r1 h1.edge;obtain⟨q1,q2⟩:=RF (V:=V2) f.ok hx hy g0 (by omega) t.val t.ne (k2.trans h1.val) h2.val;exact⟨h2.mid,k1,h2.edge,h2.reg t.val.reg,q2,q1⟩
theorem LQ {done:Nat->Prop}(m:A4 d0 V0 k x y Wt E done d V)(f:SwF d0 V0 k x y)(hw:BS (d0.tab x) ps Wt)(hp:(lo,hi)∈ps)
 (hlo:lowE d0.vars.length (levN d0) (Aa d0) y lo) (hhi:lowE d0.vars.length (levN d0) (Aa d0) y hi) (hne:lo≠hi) (ht:d.tab x (bkey lo hi)=none):bkey lo hi∈Wt:=by
 obtain⟨hx,hy,lx,ly,g3⟩:=f.facts;refine hw.has (lo,hi) hp hne ?_
 show d0.tab x (bkey lo hi)=none
 cases e:d0.tab x (bkey lo hi) with
 | none=>rfl
 | some id =>
   exfalso;have hb:=(f.ok.tab x hx _ _ id).1 e;have low:∀ {e:Nat},lowE d0.vars.length (levN d0) (Aa d0) y e->¬ isV (Aa d0) y e:=by
    rintro e ⟨_,h2⟩ ⟨c,hc,g1⟩;rw[Ff hc,g1] at h2;omega
   by_cases hT:Turns (Aa d0) x y id
   ·obtain⟨b,g0,g4,g2⟩:=hT;rw[hb] at g0;cases g0;rcases g2 with h|h
    . exact low (D8 hlo) h
    . exact low (D8 hhi) h
   . have h1:=(m.tabX (bkey lo hi).1 (bkey lo hi).2 id).2 ⟨m.mid.keep id _ hb (fun hd=>hT (m.mid.dn id hd).1),hT⟩;rw[show ((bkey lo hi).1,(bkey lo hi).2)=bkey lo hi from rfl,ht] at h1;cases h1
section
variable {F:Phi}{o:Own}
theorem Sf (h:A2 o w sb d):Cl 218 #[Pt sb] w (Sm (Iv d.pool.room) w):=by
 obtain⟨s,h⟩:=h;obtain⟨c0,c1,c2,c3,c4,f0⟩:=cells5 h.blk;have HP:=Hd (Ob o s.pb d.pool w h.pool);clear h
 go_enter func218,ntmps218
 go_wp2_with fail;refine HP.o.mono ?_;rintro x w' ⟨rfl,rfl⟩;go_wp2_with fail;go_ret;exact⟨rfl,rfl⟩
end
section
variable {F:Phi}{o:Own}
theorem Sg (h:A2 o w sb d):Cl 219 #[Pt sb] w (Sm (Iv d.pool.many) w):=by
 obtain⟨s,h⟩:=h;obtain⟨c0,c1,c2,c3,c4,f0⟩:=cells5 h.blk;have HP:=Hd (Oa o s.pb d.pool w h.pool);clear h
 go_enter func219,ntmps219
 go_wp2_with fail;refine HP.o.mono ?_;rintro x w' ⟨rfl,rfl⟩;go_wp2_with fail;go_ret;exact⟨rfl,rfl⟩
end
end Go.Proofs.YtkidaindpahefaaGreat
