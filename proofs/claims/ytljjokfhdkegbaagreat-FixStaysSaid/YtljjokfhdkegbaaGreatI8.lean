/- More contracts of the program's functions. -/
import Derived.Test.YtljjokfhdkegbaaGreatH7
import Derived.RangeFuncNested
import Derived.RangeFuncBound
import Derived.RangeFuncCalls
import Derived.RangeFuncLeaves
import Derived.RangeFuncWrites
import Derived.Shelf.Abstract
import Derived.Shelf.RegionOpen
import Derived.OwnWalkIn
import Derived.TacticsInMore
import Derived.LoopNIn
import Derived.LoopIn
import Derived.Defers
import Derived.Deep.WholeRow
set_option linter.unusedSimpArgs false
set_option linter.unusedVariables false
set_option linter.unusedSectionVars false
set_option linter.unnecessarySimpa false
set_option maxRecDepth 100000
set_option maxHeartbeats 8000000
namespace Go.Proofs.YtljjokfhdkegbaaGreat
section
variable {n:Nat} {lev:Nat->Nat} {nodes:Nat->Option BN} {V:Nat->BF}
theorem Dag.canon_iff (h:Dag n lev nodes V) {e e':Nat} (ho:okE nodes e) (ho':okE nodes e'):ef V e=ef V e'↔e=e' :=
 ⟨h.canon ho ho',fun e=>by rw[e]⟩
end
end Go.Proofs.YtljjokfhdkegbaaGreat

namespace Go.Proofs.YtljjokfhdkegbaaGreat
open Go.RowKit Go.Shelf
theorem Wr.of_grown {w w':World} {row:Option Nat} (h:w.grownBy w' row) (M:Nat->Prop) (hM:∀ k,row=some k->M k):Wr M w w' :=
 ⟨h.os,h.tape,h.output,h.size,fun k hk hn=>h.block k hk (fun e=>hn (hM k e.symm))⟩

open Go.RowKit
section
variable {C D:Nat->Prop} {R:Role->Prop} {o o' o'':Own} {w w' w'':World}
theorem ChgX.mono (h:ChgX C o o' w w') (hD:∀ k,C k->D k):ChgX D o o' w w':=⟨h.os,h.tape,h.output,h.size,fun k hk ho hc=>h.block k hk ho (fun e=>hc (hD k e)),h.ext,h.new⟩
end

open Go.RowKit


theorem replicate_tab (n:Nat) (b:Bool):List.replicate (2^n) b=tabB n fun _=>b:=Zyy (by simp) fun i hi=>by simp[List.getD,hi]
theorem one_any {n:Nat} {fs:List (Int×BF)} {w:World} (hn:n<=16) (h0:(0,fun _=>false)∈fs) {vl vx:Value} {hs:List (Int×BF)} {P:Nat->Prop} (hr:LawR P n fs w vl vx hs) (k:Int) :
 Calls Tryz.prog 55 #[.int .i64 n,vl,vx,.int .i64 k] w fun x w'=>∃ a F v,x=.returned (.tuple #[.int .i64 a,v])/\(a,F)∈fs/\Zc3 w' v (tabB n F)/\(∀ g,v.ownBlock=some g->P g\/w.heap.size<=g/\∃ cur,w'.heap[g]?=some (.cells cur 4 (0,0)))/\Below w.heap.size w w':=by
 obtain⟨al,cl,rfl,hl⟩:=hr.l;obtain⟨ax,cx,rfl,hx⟩:=hr.x;have hsm:=hr.small;have HSUB:=Hd hr.sub;obtain⟨L,hL⟩:∃ L,L=hs.length:=⟨_,rfl⟩;have HLL:=Hd hL;rw[<- hL] at hsm ⊢;clear hr
 by_cases hz:L=0
 ·
  subst hz;have HC:=Hd (Zn8 false n hn w);have hp:2^n<=65536:=Nat.pow_le_pow_right (by omega) hn;have H0:=Hd h0;clear hL hl hx h0
  go_enter Tryz.func55,Tryz.ntmps55
  go_wp2_with fail;refine HC.out.mono ?_;rintro x w1 ⟨g,rfl,hown,hb⟩;have HF:Hid (∃ a F v,Ending.returned (.tuple #[.int .i64 0,.slice (some ⟨g,0,none⟩) (2^n) (2^n)])=.returned (.tuple #[.int .i64 a,v])/\(a,F)∈fs/\Zc3 w1 v (tabB n F)/\(∀ g,v.ownBlock=some g->P g\/w.heap.size<=g/\∃ cur,w1.heap[g]?=some (.cells cur 4 (0,0)))/\Below w.heap.size w w1) :=
   Hd ⟨0,fun _=>false,_,rfl,H0.out,by rw[<- replicate_tab];exact(show OwnB w1 w.heap.size (.slice (some ⟨g,0,none⟩) (2^n) (2^n)) (List.replicate (2^n) false) from hown).boolsIs (by rw[List.length_replicate];omega),fun q hq=>.inr ⟨by cases hq;exact(hown.lt g rfl).1,hown.typed q hq⟩,hb⟩
  clear hown hb;go_wp2_with fail
  go_ret2
  exact HF.out
 ·
  have hpos:0<L:=by omega
  have e1:Int.tmod k L<L:=Int.tmod_lt_of_pos k (by omega);have e2 : -(L:Int)<Int.tmod k L:=by
   have:=Int.tmod_lt_of_pos (-k) (show (0:Int)<L by omega);rw[Int.neg_tmod] at this;omega
  obtain⟨i,hi,hI⟩:∃ i,i<L/\Int.tmod (Int.tmod k L+L) L=((i:Nat):Int):=by
   refine⟨(Int.tmod (Int.tmod k L+L) L).toNat,?_,?_⟩
   ·
    have:=Int.tmod_lt_of_pos (Int.tmod k L+L) (show (0:Int)<L by omega);have:=Int.tmod_nonneg (L:Int) (show 0<=Int.tmod k L+L by omega);omega
   ·
    have:=Int.tmod_nonneg (L:Int) (show 0<=Int.tmod k L+L by omega);omega
  obtain⟨b1,of1,rfl,c1⟩:=hl.cells i (by simp;omega);obtain⟨b2,of2,v2,rfl,c2,hv2,hp2⟩:=hx.cells i (by simp;omega);have hil:i<hs.length:=by omega
  have q1:at0 (hs.map Prod.fst) i=hs[i].1:=by rw[Zca (by simpa using hil)];simp
  have q2:(hs.map fun p=>tabB n p.2).getD i []=tabB n hs[i].2:=by simp[List.getD,hil]
  rw[q1] at c1;rw[q2] at hv2;have HF:Hid (∀ w',Below w.heap.size w w'->∃ a F v,Ending.returned (.tuple #[.int .i64 hs[i].1,v2])=.returned (.tuple #[.int .i64 a,v])/\(a,F)∈fs/\Zc3 w' v (tabB n F)/\(∀ g,v.ownBlock=some g->P g\/w.heap.size<=g/\∃ cur,w'.heap[g]?=some (.cells cur 4 (0,0)))/\Below w.heap.size w w') :=
   Hd fun w' hb=>⟨hs[i].1,hs[i].2,v2,rfl,HSUB.out _ (List.getElem_mem hil),hv2.below hb,fun g hg=>.inl (hp2 g hg),hb⟩
  obtain⟨k1,hk1⟩:∃ k1,k1=hs[i].1:=⟨_,rfl⟩;rw[<- hk1] at c1 HF;have hne:((L:Int) == 0)=false:=by simp;omega
  clear hL hl hx hv2 hp2 q1 q2 hk1 hz hil h0
  go_enter Tryz.func55,Tryz.ntmps55
  go_upto_region 4 with fail;refine Zap (fun W:World=>W.cell? ⟨b1,of1+i,none⟩=some (.int .i64 k1)/\W.cell? ⟨b2,of2+i,none⟩=some v2) false 10 [(0,false),(1,false),(2,false),(3,false),(4,false),(5,false),(6,false),(7,false),(8,false),(9,false)] (by kernel_rfl) (by kernel_rfl) ⟨c1,c2⟩ ?_;simp only[planned,Zc7]
  iterate 10
   refine Zaq rfl ?_;apply Exists.intro;refine⟨fun w' hw=>?_,?_⟩
   ·
    obtain⟨h1,h2⟩:=hw;go_simp;rfl
   simp only[Zai]
  refine Zeu ?_;go_wp2_with fail
  go_ret2
  exact HF.out _ (Zah w 1)
open Go.RowKit
section
variable {K:Law} {n:Nat} {Od:List Nat->Prop} {room:Nat} {w0:World} {mb:Nat} {fs:List (Int×BF)} {nx:Int} {Wt:List Ev->Int->Prop} {hl hx hs:List (Int×BF)} {W W' w:World} {o o':Own} {m m':ManD} {V V':Nat->BF} {vl vx v' v:Value} {p:Int×BF}
structure LawF (W:World) (o:Own) (v:Value) (bs:List Bool):Prop where
 is:Zc3 W v bs
 no:∀ k,v.ownBlock=some k->k<W.heap.size/\o k=none/\∃ cur,W.heap[k]?=some (.cells cur 4 (0,0))
theorem LawF.chg {bs:List Bool} (h:LawF W o v bs) (hc:ChgX NoB o o' W W'):LawF W' o' v bs :=
 ⟨h.is.same fun k hk=>hc.block k (h.no k hk).1 (h.no k hk).2.1 (fun e=>e),fun k hk=>by
  obtain⟨h1,h2,cur,h3⟩:=h.no k hk;exact⟨Nat.lt_of_lt_of_le h1 hc.size,hc.none' h1 h2,cur,(hc.block k h1 h2 (fun e=>e)).trans h3⟩⟩
theorem LawF.tab {F:BF} (h:LawF W o v (tabB n F)):∃ a c,v=.slice a (2^n) c/\Zfn W a (tabB n F):=by
 obtain⟨a,c,e,h1,_⟩:=h.is;rw[Zg8] at e;exact⟨a,c,e,h1⟩
theorem one_law (h:LawT K n Od room w0 mb fs nx Wt hs hs W o m V vl vx) (hsub:∀ p∈hs,p∈fs) (hn:n<=16) (hl:hs.length<=100) (k:Int) :
 Calls Tryz.prog 55 #[.int .i64 n,vl,vx,.int .i64 k] W fun x w'=>∃ a F v,x=.returned (.tuple #[.int .i64 a,v])/\(a,F)∈fs/\LawF w' o v (tabB n F)/\Below W.heap.size W w':=by
 refine(one_any hn h.b2.zero (h.row hsub (by omega)) k).mono ?_;rintro x w' ⟨a,F,v,rfl,h1,h2,h3,h4⟩;refine⟨a,F,v,rfl,h1,⟨h2,fun g hg=>?_⟩,h4⟩;rcases h3 g hg with ⟨_,h6,h7,cur,h8⟩|⟨h5,cur,h6⟩
 ·
  exact⟨Nat.lt_of_lt_of_le h6 h4.size,h7,cur,(h4.block g h6).trans h8⟩
 ·
  exact⟨(Array.getElem?_eq_some_iff.1 h6).1,h.sat.lt.none h5,cur,h6⟩
end
open Go.RowKit
def andF (F G:BF):BF:=Zc6 F G fun _=>false

open Go.RowKit
theorem iterF_dep {n:Nat} {Φ:BF->BF} (hΦ:∀ F,DepF n F->DepF n (Φ F)) {F:BF} (hF:DepF n F):∀ k,DepF n (Zez Φ F k)
 | 0=>hF
 | k+1=>hΦ _ (iterF_dep hΦ hF k)
open Go.RowKit
section
variable {d:Zae} {V:Nat->BF}
theorem Zao.dep (h:Zao d V) {f:Nat} (hf:okE (Zaa d) f):DepF d.vars.length (ef V f):=fun ρ ρ' hr=>h.dag.indep _ f (Nat.le_refl _) hf ρ ρ' fun v hv _=>hr v hv
end
open Go.RowKit
theorem SatE.dep {K:Law} {n:Nat} {Od:List Nat->Prop} {room:Nat} {w0 w:World} {mb:Nat} {fs:List (Int×BF)} {nx:Int} {o:Own} {m:ManD} {V:Nat->BF} (h:SatE K n Od room w0 mb fs nx w o m V) {k:Int} {F:BF} (hk:(k,F)∈fs):DepF n F:=by
 obtain⟨f,hf,rfl⟩:=h.find hk;have:=h.ok.store.dep (h.ok.handles.ok _ hf)
 rwa [h.vars] at this
open Go.RowKit
section
variable {K:Law} {n k k1 k2:Nat} {Od:List Nat->Prop} {room:Nat} {w0 w w' w1 w2:World} {mb:Nat} {fs:List (Int×BF)} {nx:Int} {o o' o1 o2:Own} {m m' m1 m2:ManD} {V V' V1 V2:Nat->BF} {xb:Nat}
theorem ctxMk_c (hK:Zbu K) (h:Zdz (K m.d V) o w mb m) (hlt:Zaj o w) (hx:Zer o w xb mb) (hk:Zao m.d V) (v lo hi:Nat) (hv:v<m.d.vars.length) (hlo:okE (Zaa m.d) lo) (hhi:okE (Zaa m.d) hi)
 (hgl:levN m.d v<lvE m.d.vars.length (levN m.d) (Zaa m.d) lo) (hgh:levN m.d v<lvE m.d.vars.length (levN m.d) (Zaa m.d) hi) :
 Calls Tryz.prog 190 #[.pointer (some ⟨xb,0,none⟩),.int .i64 v,.int .i64 lo,.int .i64 hi] w (Zmm K 1 o w mb m V fun d V' r=>ef V' r=iteF v (ef V hi) (ef V lo)/\levN m.d v<=lvE m.d.vars.length (levN d) (Zaa d) r):=by
 refine(Zm1 hK h hlt hx hk v lo hi hlo hhi).mono ?_;rintro e w' ⟨o',m',V',st,⟨ev,h1,_,_,_,_,rfl⟩|⟨h1,_,_,(⟨er,her,hd,_,rfl⟩|⟨_,_,r,rfl,h2,h3,h4,h5⟩)⟩⟩
 ·
  exact .inr ⟨0,true,ev,rfl,o',m',V',st,.inr ⟨rfl,rfl,h1⟩⟩
 ·
  rcases her with ⟨_,h⟩|⟨_,_,_,h⟩|⟨rfl,h⟩
  ·
   exact(h ⟨by omega,by omega⟩).elim
  ·
   simp only[Int.toNat_natCast] at h;omega
  ·
   exact .inr ⟨7,false,ev0,rfl,o',m',V',st,.inl ⟨rfl,rfl,rfl,h1,by rw[hd];exact h,by rw[hd];omega⟩⟩
 ·
  exact .inl ⟨r,o',m',V',rfl,⟨st,h1,h5⟩,h2,h3,h4⟩
theorem ctxVar_c (hK:Zbu K) (h:Zdz (K m.d V) o w mb m) (hlt:Zaj o w) (hx:Zer o w xb mb) (hk:Zao m.d V) (v:Nat) (hv:v<m.d.vars.length) :
 Calls Tryz.prog 190 #[.pointer (some ⟨xb,0,none⟩),.int .i64 v,.int .i64 (1:Nat),.int .i64 (0:Nat)] w (Zmm K 1 o w mb m V fun _ V' r=>ef V' r=varF v):=by
 have hlv:=hk.dag.lt v hv;refine(ctxMk_c hK h hlt hx hk v 1 0 hv (.inl rfl) (.inl rfl) (by rw[Zjj hk rfl];exact hlv) (by rw[Zjj hk rfl];exact hlv)).mono ?_;rintro e w' (⟨r,o',m',V',rfl,h1,h2,h3,_⟩|h)
 ·
  refine .inl ⟨r,o',m',V',rfl,h1,h2,?_⟩
  show ef V' r=varF v
  rw[h3];funext ρ;simp only[iteF,varF,Zht hk.dag.one,Zks hk.dag.one];cases ρ v<;>rfl
 ·
  exact .inr h
end
open Go.RowKit
section
variable {K:Law} {n:Nat}
theorem op_and (hK:Zbu K):Zqx K n 150 andF:=by
 intro o w xb mb m V a b h hlt hx hk hn ha hb;have hI:=Zps hK h hlt hx hk hn a b 1 ha hb (.inl rfl);have e:Zc6 (ef V a) (ef V b) (ef V 1)=andF (ef V a) (ef V b):=by
  rw[hk.dag.ef1];rfl
 rw[e] at hI;have HI:=Hd hI;clear hI e h hlt hx hk hn ha hb hK
 go_enter Tryz.func150,Tryz.ntmps150
 go_wp2_with fail;refine HI.out.mono ?_;rintro e w' (⟨r,o',m',V',rfl,h⟩|⟨er,evt,ev,rfl,h⟩)
 ·
  have HR:=Hd h;clear h HI;go_wp2_with fail;go_ret;exact .inl ⟨r,o',m',V',rfl,HR.out⟩
 ·
  have HR:=Hd h;clear h HI;unfold Zdq;go_wp2_with fail;exact⟨rfl,.inr ⟨er,evt,ev,rfl,HR.out⟩⟩
end
open Go.RowKit
theorem enters_and (args:Array Value) (w:World):(callFunc 150 args).run Tryz.prog w=.ok (.enter 150 args) w:=enters_of Tryz.func150 (by kernel_rfl) rfl args w

open Go.RowKit
section
variable {K:Law} {n:Nat} {Od:List Nat->Prop} {room:Nat} {w0 w w':World} {mb:Nat} {fs:List (Int×BF)} {nx:Int} {o o':Own} {m m':ManD} {V V':Nat->BF}
theorem manDrop_d (hK:Zbu K) (h:SatE K n Od room w0 mb fs nx w o m V) (hn:nx<549755813888) {a:Option Addr} {c:Nat} {ks:List Int} (hks:Za2 w a ks) (hno:∀ x,a=some x->o x.block=none)
 (hin:∀ j,j<ks.length->∃ F,(at0 ks j,F)∈Ze8 fs (ks.take j)) (u:FrameMode) :
 CallsD Tryz.prog 118 #[.pointer (some ⟨mb,0,none⟩),.slice a ks.length c] u w fun x u' w'=>u'=u/\x=.returned (.int .i64 0)/\∃ o' m',Zil K n Od room w0 mb (Ze8 fs ks) nx o w m V o' w' m':=by
 have hrl:=hks.len;have HI0:Hid (∃ o' m',Zil K n Od room w0 mb (Ze8 fs (ks.take 0)) nx o w m V o' w m'/\Za2 w a ks/\(∀ x,a=some x->o' x.block=none)):=Hd ⟨o,m,⟨h,rfl,rfl,rfl,rfl,Chg.refl _ _ _⟩,hks,hno⟩;have HIN:=Hd hin;have HN:=Hd hn;have HLAW:=Hd hK;clear h hn hks hno hin hK
 go_enter_d Tryz.func118,Tryz.ntmps118
 go_wp2_with fail
 go_loopw [13] (fun s13 wr=>∃ j:Nat,j<=ks.length/\s13=.int .i64 j/\Hid (∃ o' m',Zil K n Od room w0 mb (Ze8 fs (ks.take j)) nx o w m V o' wr m'/\Za2 wr a ks/\(∀ x,a=some x->o' x.block=none))) (fun s13 _=>ks.length-(intOf s13).toNat)
 case atStart=>exact⟨0,Nat.zero_le _,rfl,HI0⟩
 case round =>
  obtain⟨j,hj,rfl,HH⟩:=hrel;obtain⟨oj,mj,hh,hi,hno⟩:=HH.out
  by_cases hlt:j<ks.length
  ·
   obtain⟨b,off,rfl,hcell⟩:=hi.cells j hlt;obtain⟨s,hs⟩:=hh.sat.is;obtain⟨c0,c1,c2,c3,c4,c5,f0⟩:=cells6 hs.blk;have hjz:(j:Int)<ks.length:=by omega
   obtain⟨z,hz⟩:∃ z,z=at0 ks j:=⟨_,rfl⟩;obtain⟨F,hF⟩:=HIN.out j hlt;rw[<- hz] at hF hcell;obtain⟨f,hf,hfF⟩:=hh.sat.find hF;have hl:=Zem hs hh.sat.ok.handles.nodup hf;have HHJ:=Hd hh;have HIJ:=Hd hi;have HNO:=Hd hno;have HBL:Hid (b<wr.heap.size):=Hd (Zab hcell);have HJL:=Hd hlt;have HZ:=Hd hz;have HS:=Hd hs;have HF:=Hd hf
   by_cases h1:z>1
   ·
    have HD:=Hd (Zof hs.store hh.sat.lt hh.sat.ok hf h1 (by rw[hh.sat.next];exact HN.out));have H1:=Hd h1;clear hh hi hno hs HH HI0 hz hF hf hfF;go_wp2_with fail;refine HD.out.mono ?_;rintro x w1 ⟨rfl,d',hst,hl1,hr,hc1⟩;obtain⟨hM1,w2,hrun,hdh⟩:=Zvg HLAW.out HHJ.out.sat HF.out H1.out HS.out hst hl1 hr hc1;obtain⟨e0,e1,e2,e3,e4,e5,g0⟩:=cells6 hM1.blk
    have HNX:Hid (Zil K n Od room w0 mb (Ze8 fs (ks.take (j+1))) nx o w m V oj w2 { mj with d:=d',hs:=delK z mj.hs }/\Za2 w2 (some ⟨b,off,none⟩) ks/\(∀ x,some (⟨b,off,none⟩:Addr)=some x->oj x.block=none)):=Hd ⟨by
     rw[Zkr HJL.out,<- HZ.out,if_pos H1.out];exact HHJ.out.trans hdh,HIJ.out.chg hdh.chg HNO.out,fun x hx=>hdh.chg.alien' (by cases hx;exact HBL.out) (HNO.out x hx)⟩
    clear hM1 hst hl1 hr hc1 hdh c0 c1 c2 c3 c4 c5 f0 hcell hl;go_wp2_with fail;go_roundw
    case rel=>exact⟨j+1,Nat.succ_le_of_lt HJL.out,by go_num,Hd ⟨_,_,HNX.out.1,HNX.out.2.1,HNX.out.2.2⟩⟩
    case measure =>
     have:=HJL.out;simp[intOf];omega
   ·
    have HNX:Hid (Zil K n Od room w0 mb (Ze8 fs (ks.take (j+1))) nx o w m V oj wr mj/\Za2 wr (some ⟨b,off,none⟩) ks/\(∀ x,some (⟨b,off,none⟩:Addr)=some x->oj x.block=none)):=Hd ⟨by
     rw[Zkr HJL.out,<- HZ.out,if_neg h1];exact HHJ.out,HIJ.out,HNO.out⟩
    clear hh hi hno hs HH HI0 hz hF hf hfF;go_wp2_with fail;go_roundw
    case rel=>exact⟨j+1,Nat.succ_le_of_lt HJL.out,by go_num,Hd ⟨_,_,HNX.out.1,HNX.out.2.1,HNX.out.2.2⟩⟩
    case measure =>
     have:=HJL.out;simp[intOf];omega
  ·
   obtain rfl:j=ks.length:=by omega
   have HF:Hid (∃ o' m',Zil K n Od room w0 mb (Ze8 fs ks) nx o w m V o' wr m'):=Hd ⟨oj,mj,by rw[List.take_length] at hh;exact hh⟩;clear hh hi hno HH HI0;go_wp2_with fail;go_ret;exact⟨rfl,HF.out⟩
theorem manDrop_mid_d (hK:Zbu K) {hs r:List (Int×BF)} (h:SatE K n Od room w0 mb (fs++(hs++r)) nx w o m V) (hb:B2 fs) (hn:nx<549755813888) {a:Option Addr} {c:Nat} (hks:Za2 w a (hs.map Prod.fst)) (hno:∀ x,a=some x->o x.block=none) (u:FrameMode) :
 CallsD Tryz.prog 118 #[.pointer (some ⟨mb,0,none⟩),.slice a hs.length c] u w fun x u' w'=>u'=u/\x=.returned (.int .i64 0)/\∃ o' m',Zil K n Od room w0 mb (fs++r) nx o w m V o' w' m':=by
 have hnd:=h.nodup;have hgt:=h.gt hb;have e:Ze8 (fs++(hs++r)) (hs.map Prod.fst)=fs++r:=Zm5 hs fs r hnd (fun p hp=>hgt p (List.mem_append_left _ hp));have hin:∀ j,j<(hs.map Prod.fst).length->∃ F,(at0 (hs.map Prod.fst) j,F)∈Ze8 (fs++(hs++r)) ((hs.map Prod.fst).take j):=fun j hj=>by
  have hj':j<hs.length:=by simpa using hj
  have e1:at0 (hs.map Prod.fst) j=hs[j].1:=by rw[Zca hj];simp
  refine⟨hs[j].2,?_⟩;rw[e1];refine Zjo (List.mem_append_right _ (List.mem_append_left _ (List.getElem_mem hj'))) ?_;rw[List.map_append,List.nodup_append,List.map_append,List.nodup_append] at hnd;have hh:=hnd.2.1.1;intro hc;obtain⟨i,hi,e2⟩:=List.getElem_of_mem hc;have hi2:i<j:=by simp at hi;omega
  rw[List.getElem_take] at e2;exact(List.pairwise_iff_getElem.1 hh) i j (by simp;omega) hj hi2 (by rw[e2];simp)
 have:=manDrop_d hK h hn (c:=c) hks hno hin u;rw[e,List.length_map] at this;exact this
end
open Go.RowKit
theorem eqNilFL (w:World) (g:Fn) (fs cs:Array Value):(binOp .eql 244 (.func g fs cs) .nilFunc).run Tryz.prog w=.ok (.bool false) w:=by
 have hd:Op.maxDepth=9999+1:=rfl;have h:(Op.equal 244 (.func g fs cs) .nilFunc).run Tryz.prog w=.ok false w:=by
  unfold Op.equal;rw[hd];unfold Op.equalIn;simp only[Sem.run_bind,run_underlying Tryz.underlying244,Result.andThen_ok];simp
 simp only[binOp];simp[h]
section
variable {K:Law} {n:Nat} {Od:List Nat->Prop} {room:Nat} {w0:World} {mb:Nat} {fs:List (Int×BF)} {nx:Int} {C:Nat->Prop} {B:World->Prop} {St:ManD->Prop} {gop:Nat} {lop:Array Value} {Q:World->ManD->(Nat->BF)->Prop} {E:Int->ManD->ManD->Prop}
def OpL (K:Law) (n:Nat) (Od:List Nat->Prop) (room:Nat) (w0:World) (mb:Nat) (fs:List (Int×BF)) (nx:Int) (C:Nat->Prop) (B:World->Prop) (St:ManD->Prop) (gop:Nat) (lop:Array Value) (Q:World->ManD->(Nat->BF)->Prop) (E:Int->ManD->ManD->Prop):Prop :=
 ∀ (o:Own) (W:World) (m:ManD) (V:Nat->BF) (xb:Nat),SatE K n Od room w0 mb fs nx W o m V->B W->(∀ k,C k->k<W.heap.size/\o k=none)->St m->Zer o W xb mb->¬ C xb ->
  Calls Tryz.prog gop (#[.pointer (some ⟨xb,0,none⟩)]++lop) W fun e w'=>∃ (o':Own) (m':ManD) (V':Nat->BF),Zld C K o W mb m V o' w' m' V'/\B w' /\
   ((e=.returned (.tuple #[])/\Q w' m' V') \/
    (∃ er:Int,e=Zdq er false ev0/\er≠0/\m'.waits=m.waits/\St m'/\E er m m') \/
    (∃ ev,e=Zdq 0 true ev/\m.waits=ev::m'.waits/\StE K n Od room w0 mb fs nx St m'/\HapG K n Od room w0 mb fs nx ev))
structure LookI (K:Law) (n:Nat) (Od:List Nat->Prop) (room:Nat) (w0:World) (mb:Nat) (fs:List (Int×BF)) (nx:Int) (C:Nat->Prop) (B:World->Prop) (St:ManD->Prop) (o0:Own) (w:World) (k:Nat) (full:Bool) (W:World) (o:Own) (m:ManD) (V:Nat->BF):Prop where
 sat:SatE K n Od room w0 mb fs nx W o m V
 bok:B W
 st:St m
 len:m.waits.length=k
 cok:∀ c,C c->c<w.heap.size/\o c=none
 chg:ChgX C o0 o w W
 clean:full=true->m.d.dead=0
def LookF (K:Law) (n:Nat) (Od:List Nat->Prop) (room:Nat) (w0:World) (mb:Nat) (fs:List (Int×BF)) (nx:Int) (C:Nat->Prop) (B:World->Prop) (Q:World->ManD->(Nat->BF)->Prop) (E:Int->ManD->ManD->Prop) (o0:Own) (w:World) (er:Int) (W:World):Prop :=
 ∃ o m V,SatE K n Od room w0 mb fs nx W o m V/\B W/\ChgX C o0 o w W/\((er=0/\Q W m V)\/(er≠0/\∃ m0:ManD,E er m0 m/\(er=7->m0.d.dead=0)))
theorem look_runG (hB:∀ W W',B W->(∀ c,C c->W'.heap[c]?=W.heap[c]?)->B W') (hQ:∀ W W' m V,Q W m V->(∀ c,C c->W'.heap[c]?=W.heap[c]?)->Q W' m V) (hSt:∀ (m:ManD) (d:Zae),St m->Zbf m.d d->St { m with d:=d }) (hC0:∀ c,C c->w0.heap.size<=c) (eg:∀ args w,(callFunc gop args).run Tryz.prog w=.ok (.enter gop args) w)
 (hop:OpL K n Od room w0 mb fs nx C B St gop lop Q E) {o:Own} {w:World} {m:ManD} {V:Nat->BF} (h:SatE K n Od room w0 mb fs nx w o m V) (hb:B w) (hC:∀ c,C c->c<w.heap.size/\o c=none) (hst:St m) :
 Calls Tryz.prog 202 #[.pointer (some ⟨mb,0,none⟩),.func (.func gop) #[] lop] w fun x w'=>∃ er,x=.returned (.int .i64 er)/\LookF K n Od room w0 mb fs nx C B Q E o w er w':=by
 have hw0:=h.chg.size;have hother:∀ {k full W W' o1 m1 V1},LookI K n Od room w0 mb fs nx C B St o w k full W o1 m1 V1->∀ {s:Nat},w.heap.size<=s->o1 s=none->o1 (s+1)=none->Ali s W W'->LookI K n Od room w0 mb fs nx C B St o w k full W' o1 m1 V1:=by
  intro k full W W' o1 m1 V1 hi s hs n0 n1 a;have hk:∀ k,k<w.heap.size->W'.heap[k]?=W.heap[k]?:=fun k hk=>a.keep k (by have:=hi.chg.size;omega) (by omega)
  refine⟨hi.sat.other a (fun k _ e=>?_),hB _ _ hi.bok (fun c hc=>hk c (hi.cok c hc).1),hi.st,hi.len,hi.cok,hi.chg.trans (ChgX.of_wr (C:=fun k=>w.heap.size<=k) a o1 (fun k _ e=>by omega)) (fun k hk e=>by omega),hi.clean⟩;rcases e with rfl|rfl
  ·
   exact⟨by omega,n0⟩
  ·
   exact⟨by omega,n1⟩
 have hnext:∀ {k full full' W W' o1 m1 V1 o2 m2 V2},LookI K n Od room w0 mb fs nx C B St o w k full W o1 m1 V1->SatE K n Od room w0 mb fs nx W' o2 m2 V2->ChgX NoB o1 o2 W W'->m2.waits=m1.waits->St m2->(full'=true->m2.d.dead=0)->LookI K n Od room w0 mb fs nx C B St o w k full' W' o2 m2 V2:=by
  intro k full full' W W' o1 m1 V1 o2 m2 V2 hi hsat hc e1 e2 e3;have hsz:=hi.chg.size;exact⟨hsat,hB _ _ hi.bok (fun c hc'=>hc.block c (by have:=(hi.cok c hc').1;omega) (hi.cok c hc').2 (fun e=>e)),e2,by rw[e1];exact hi.len,fun c hc'=>⟨(hi.cok c hc').1,hc.none' (by have:=(hi.cok c hc').1;omega) (hi.cok c hc').2⟩,hi.chg.trans hc (fun _ _ e=>e.elim),e3⟩
 refine Zyu mb _ _ _ eg (fun k full W=>∃ o1 m1 V1,LookI K n Od room w0 mb fs nx C B St o w k full W o1 m1 V1) _ ?_ m.waits.length ⟨o,m,V,h,hb,hst,rfl,hC,ChgX.of_below (Below.refl _ _) o C,by simp⟩;rintro k full W ⟨o1,m1,V1,hi⟩;have hsz:=hi.chg.size;obtain⟨s,hs⟩:∃ s,s=W.heap.size:=⟨_,rfl⟩
 refine⟨fun st W1=>match st with
  | none=>∃ (o':Own) (m':ManD) (V':Nat->BF),SatE K n Od room w0 mb fs nx W1 o' m' V'/\B W1/\ChgX C o o' w W1/\s+3<=W1.heap.size/\(∀ q,w.heap.size<=q->q<s+3->o1 q=none->o' q=none)/\Q W1 m' V'
  | some (er,evt,ev)=>∃ (o':Own) (m':ManD) (V':Nat->BF),LookI K n Od room w0 mb fs nx C B St o w m'.waits.length false W1 o' m' V'/\s+3<=W1.heap.size/\(∀ q,w.heap.size<=q->q<s+3->o1 q=none->o' q=none) /\
   ((evt=false/\er≠0/\m'.waits=m1.waits/\E er m1 m')\/(evt=true/\m1.waits=ev::m'.waits/\StE K n Od room w0 mb fs nx St m'/\HapG K n Od room w0 mb fs nx ev)),?_,?_,?_,?_,?_⟩
 ·
  unfold Zu5;have hbt:Below W.heap.size W (tryW mb W):=((Zaf _ _).alloc (by simp) _).alloc (by simp;omega) _;have hzt:(tryW mb W).heap.size=W.heap.size+3:=by unfold tryW;simp
  obtain⟨T,hT⟩:∃ T,T=tryW mb W:=⟨_,rfl⟩;have h1:(tryW mb W).heap[W.heap.size+2]?=some (.cells #[.pointer (some ⟨mb,0,none⟩)] 249 (0,0)):=by
   have:=heap_alloc_new ((W.alloc (.cells #[.int .i64 0,.bool false,.int .i64 0,.int .i64 0,.int .i64 0] 256)).alloc (.cells #[.bool false] 4)) (.cells #[.pointer (some ⟨mb,0,none⟩)] 249);rw[World.size_alloc,World.size_alloc] at this;exact this
  rw[<- hT] at hbt hzt h1 ⊢;clear hT;have hsatT:=hi.sat.below hbt;have hcx:Zer o1 T (W.heap.size+2) mb:=⟨cell1 h1,hi.sat.lt.none (by omega)⟩;have hC':∀ q,w.heap.size<=q->¬ C q:=fun q hq e=>by have:=(hi.cok q e).1;omega
  have hkeep:∀ {o':Own} {w1:World},ChgX C o1 o' T w1->∀ q,w.heap.size<=q->q<s+3->o1 q=none->w1.heap[q]?=T.heap[q]?:=fun hc q h1 h2 h3=>hc.block q (by omega) h3 (hC' q h1)
  have n0:o1 W.heap.size=none:=hi.sat.lt.none (Nat.le_refl _);have n1:o1 (W.heap.size+1)=none:=hi.sat.lt.none (by omega);refine(hop o1 T m1 V1 (W.heap.size+2) hsatT (hB _ _ hi.bok (fun c hc=>hbt.block c (by have:=(hi.cok c hc).1;omega))) (fun c hc=>⟨by have:=(hi.cok c hc).1;omega,(hi.cok c hc).2⟩) hi.st hcx (hC' _ (by omega))).mono ?_;rintro e w1 ⟨o',m',V',st,b1,hcase⟩;have hsz1:=st.chg.size;have hc1:=(hi.chg.trans (ChgX.of_below hbt o1 C) (fun _ _ e=>e)).trans st.chg (fun _ _ e=>e);refine⟨by omega,hkeep st.chg _ (by omega) (by omega) n0,hkeep st.chg _ (by omega) (by omega) n1,?_⟩;have hnone:∀ q,w.heap.size<=q->q<s+3->o1 q=none->o' q=none:=fun q _ h2 h3=>st.chg.none' (by omega) h3
  have hcok:∀ c,C c->c<w.heap.size/\o' c=none:=fun c hc=>⟨(hi.cok c hc).1,st.chg.none' (by have:=(hi.cok c hc).1;omega) (hi.cok c hc).2⟩
  rcases hcase with ⟨rfl,q1⟩|⟨er,rfl,q1,q2,q3,q4⟩|⟨ev,rfl,q1,q2,q3⟩
  ·
   exact .inl ⟨rfl,o',m',V',hsatT.step st hC0,b1,hc1,by omega,hnone,q1⟩
  ·
   exact .inr ⟨er,false,ev0,rfl,o',m',V',⟨hsatT.step st hC0,b1,q3,rfl,hcok,hc1,by simp⟩,by omega,hnone,.inl ⟨rfl,q1,q2,q4⟩⟩
  ·
   exact .inr ⟨0,true,ev,rfl,o',m',V',⟨hsatT.step st hC0,b1,q2 _ _ _ _ (hsatT.step st hC0) rfl rfl (.inl (Nat.le_refl _)),rfl,hcok,hc1,by simp⟩,by omega,hnone,.inr ⟨rfl,q1,q2,q3⟩⟩
 ·
  rintro W1 W2 ⟨o',m',V',a1,a2,a3,a4,a5,a8⟩ al;rw[<- hs] at al;have n0:o' s=none:=a5 s (by omega) (by omega) (by rw[hs];exact hi.sat.lt.none (Nat.le_refl _));have n1:o' (s+1)=none:=a5 (s+1) (by omega) (by omega) (by rw[hs];exact hi.sat.lt.none (by omega));have hk:∀ c,C c->W2.heap[c]?=W1.heap[c]?:=fun c hc=>al.keep c (by have:=(hi.cok c hc).1;omega) (by have:=(hi.cok c hc).1;omega)
  refine⟨o',m',V',a1.other al (fun k _ e=>?_),hB _ _ a2 hk,a3.trans (ChgX.of_wr (C:=fun k=>w.heap.size<=k) al o' (fun k _ e=>by omega)) (fun k hk e=>by omega),.inl ⟨rfl,hQ _ _ _ _ a8 hk⟩⟩;rcases e with rfl|rfl
  ·
   exact⟨by omega,n0⟩
  ·
   exact⟨by omega,n1⟩
 ·
  rintro er ev W1 W2 ⟨o',m',V',hi',a4,a5,(⟨h1,_⟩|⟨_,hev,hvs,hap⟩)⟩ al
  ·
   cases h1
  rw[<- hs] at al;have n0:o' s=none:=a5 s (by omega) (by omega) (by rw[hs];exact hi.sat.lt.none (Nat.le_refl _));have n1:o' (s+1)=none:=a5 (s+1) (by omega) (by omega) (by rw[hs];exact hi.sat.lt.none (by omega));have hi2:=hother hi' (by omega) n0 n1 al;refine(hap o' W2 m' V' hi2.sat).mono ?_;rintro x w' ⟨rfl,o2,m2,V2,g1,g2,g3,g5,g4⟩;exact⟨rfl,m'.waits.length,by rw[<- hi.len,hev];simp,o2,m2,V2,hnext hi2 g1 g4 g2 (hvs _ _ _ _ g1 g2 g3 g5) (by simp)⟩
 ·
  rintro ev W1 W2 ⟨o',m',V',hi',a4,a5,(⟨_,_,hw,_⟩|⟨h1,_⟩)⟩ al hfull
  ·
   rw[<- hs] at al;have n0:o' s=none:=a5 s (by omega) (by omega) (by rw[hs];exact hi.sat.lt.none (Nat.le_refl _));have n1:o' (s+1)=none:=a5 (s+1) (by omega) (by omega) (by rw[hs];exact hi.sat.lt.none (by omega));have hi2:=hother hi' (by omega) n0 n1 al;refine(Zkb hi2.sat).mono ?_;rintro x w' ⟨rfl,o2,d2,g1,g2,g3⟩;have hi3:=hnext (full':=true) hi2 g1 (ChgX.of_chg g3 NoB) rfl (hSt _ _ hi2.st g2) (fun _=>g2.dead);rw[hw,hi.len] at hi3;exact⟨⟨_,rfl⟩,o2,_,V',hi3⟩
  ·
   cases h1
 ·
  rintro er ev W1 W2 ⟨o',m',V',hi',a4,a5,(⟨_,h0,hw,hE⟩|⟨h1,_⟩)⟩ al hne
  ·
   rw[<- hs] at al;have n0:o' s=none:=a5 s (by omega) (by omega) (by rw[hs];exact hi.sat.lt.none (Nat.le_refl _));have n1:o' (s+1)=none:=a5 (s+1) (by omega) (by omega) (by rw[hs];exact hi.sat.lt.none (by omega));have hi2:=hother hi' (by omega) n0 n1 al;refine⟨o',m',V',hi2.sat,hi2.bok,hi2.chg,.inr ⟨h0,m1,hE,fun e7=>hi.clean ?_⟩⟩;cases full with
   | true=>rfl
   | false=>exact(hne ⟨e7,rfl⟩).elim
  ·
   cases h1
theorem look_gen (hB:∀ W W',B W->(∀ c,C c->W'.heap[c]?=W.heap[c]?)->B W') (hQ:∀ W W' m V,Q W m V->(∀ c,C c->W'.heap[c]?=W.heap[c]?)->Q W' m V) (hSt:∀ (m:ManD) (d:Zae),St m->Zbf m.d d->St { m with d:=d }) (hC0:∀ c,C c->w0.heap.size<=c) (eg:∀ args w,(callFunc gop args).run Tryz.prog w=.ok (.enter gop args) w)
 (hop:OpL K n Od room w0 mb fs nx C B St gop lop Q E) {o:Own} {w:World} {m:ManD} {V:Nat->BF} (h:SatE K n Od room w0 mb fs nx w o m V) (hb:B w) (hC:∀ c,C c->c<w.heap.size/\o c=none) (hst:St m) :
 Calls Tryz.prog 229 #[.pointer (some ⟨mb,0,none⟩),.func (.func gop) #[] lop] w fun x w'=>∃ er,x=.returned (.int .i64 er)/\LookF K n Od room w0 mb fs nx C B Q E o w er w':=by
 have HRUN:=Hd (look_runG hB hQ hSt hC0 eg hop h hb hC hst);have hnf:=eqNilFL w (.func gop) #[] lop;clear h hb hB hQ hSt hC0 hop hC hst
 go_enter Tryz.func229,Tryz.ntmps229
 go_wp2_with fail;refine HRUN.out.mono ?_;rintro x w1 ⟨er,rfl,hf⟩;have HF:=Hd hf;clear hf HRUN;go_wp2_with fail;go_ret;exact⟨er,rfl,HF.out⟩
end
open Go.RowKit
theorem enters_is1 (args:Array Value) (w:World):(callFunc 230 args).run Tryz.prog w=.ok (.enter 230 args) w:=enters_of Tryz.func230 (by kernel_rfl) rfl args w
theorem Zld.write {K:Law} {C D:Nat->Prop} {o o':Own} {w w' w'':World} {mb:Nat} {m m':ManD} {V V':Nat->BF} (h:Zld C K o w mb m V o' w' m' V') (hw:Wr D w' w'') (hD:∀ k,D k->C k/\o k=none/\k<w.heap.size):Zld C K o w mb m V o' w'' m' V':=by
 obtain⟨s,hm⟩:=h.is;refine⟨⟨s,hm.keep (fun g r hg=>hw.keep g (h.lt g r hg) (fun e=>?_)) (fun _ _ h=>h)⟩,h.lt.mono hw.size,h.chg.trans (ChgX.of_wr (C:=D) hw o' (fun _ _ e=>e)) (fun k _ e=>(hD k e).1),h.ok,h.ext,h.hs,h.next⟩;have:=h.chg.none' (hD g e).2.2 (hD g e).2.1;rw[this] at hg;cases hg
structure BoI (ba bf bb bw:Nat) (ka kb:Int) (g e0:Nat) (W:World):Prop where
 a:W.cell? ⟨ba,0,none⟩=some (.int .i64 ka)
 f:W.cell? ⟨bf,0,none⟩=some (.func (.func g) #[] #[])
 b:W.cell? ⟨bb,0,none⟩=some (.int .i64 kb)
 w:W.cell? ⟨bw,0,none⟩=some (.int .i64 e0)
abbrev C4 (ba bf bb bw:Nat) (k:Nat):Prop:=k=ba\/k=bf\/k=bb\/k=bw
theorem BoI.keep {ba bf bb bw:Nat} {ka kb:Int} {g e0:Nat} {W W':World} (h:BoI ba bf bb bw ka kb g e0 W) (hk:∀ c,C4 ba bf bb bw c->W'.heap[c]?=W.heap[c]?):BoI ba bf bb bw ka kb g e0 W' :=
 ⟨(World.cell?_of_block (w:=W) (a:=⟨ba,0,none⟩) (hk _ (.inl rfl))).trans h.a,(World.cell?_of_block (w:=W) (a:=⟨bf,0,none⟩) (hk _ (.inr (.inl rfl)))).trans h.f,(World.cell?_of_block (w:=W) (a:=⟨bb,0,none⟩) (hk _ (.inr (.inr (.inl rfl))))).trans h.b,(World.cell?_of_block (w:=W) (a:=⟨bw,0,none⟩) (hk _ (.inr (.inr (.inr rfl))))).trans h.w⟩
section
variable {K:Law} {n:Nat} {Od:List Nat->Prop} {room:Nat} {w0 w:World} {mb xb:Nat} {fs:List (Int×BF)} {nx:Int} {o:Own} {m:ManD} {V:Nat->BF}
theorem is1_c {g:Nat} {G:BF->BF->BF} (hG:Zqx K n g G) (eg:∀ args w,(callFunc g args).run Tryz.prog w=.ok (.enter g args) w) {ba bf bb bw bs e0:Nat} {ka kb:Int} {F1 F2:BF} (h1:(ka,F1)∈fs) (h2:(kb,F2)∈fs) (hsat:SatE K n Od room w0 mb fs nx w o m V) (hB:BoI ba bf bb bw ka kb g e0 w) (hs:∃ z:Bool,w.heap[bs]?=some (.cells #[.bool z] 4 (0,0))) (hno:∀ c,(C4 ba bf bb bw c\/c=bs)->o c=none) (hx:Zer o w xb mb) :
 Calls Tryz.prog 230 #[.pointer (some ⟨xb,0,none⟩),.pointer (some ⟨ba,0,none⟩),.pointer (some ⟨bf,0,none⟩),.pointer (some ⟨bb,0,none⟩),.pointer (some ⟨bw,0,none⟩),.pointer (some ⟨bs,0,none⟩)] w fun e w' =>
  (∃ (r:Nat) (o':Own) (m':ManD) (V':Nat->BF) (w1:World),e=.returned (.tuple #[])/\AtC K (2^n-1) o w mb m V o' w1 m' V'/\okE (Zaa m'.d) r/\ef V' r=G F1 F2/\w'=w1.setCell ⟨bs,0,none⟩ (.bool ((r:Int) == (e0:Int)))) \/
  (∃ er evt ev,e=Zdq er evt ev/\Zu3 K (2^n-1) o w mb m V er evt ev w'):=by
 obtain⟨f1,hf1,e1⟩:=hsat.find h1;obtain⟨f2,hf2,e2⟩:=hsat.find h2;have hk:=hsat.ok;have hbd:Below w.heap.size w w.drew:=Zah w 1;obtain⟨s,hms⟩:=hsat.is;have hmW:=hms.below hsat.lt hbd;have hlW:=hsat.lt.mono hbd.size;have hxW:Zer o w.drew xb mb:=⟨(hbd.cell (p:=⟨xb,0,none⟩) (Zab hx.cell)).trans hx.cell,hx.own⟩;have ca:=hB.a;have cf:=(hbd.cell (p:=⟨bf,0,none⟩) (Zab hB.f)).trans hB.f;have cb:=(hbd.cell (p:=⟨bb,0,none⟩) (Zab hB.b)).trans hB.b;have cw:=(hbd.cell (p:=⟨bw,0,none⟩) (Zab hB.w)).trans hB.w;obtain⟨z,hz⟩:=hs;have hsz:bs<w.heap.size:=(Array.getElem?_eq_some_iff.1 hz).1;have hzd:=(hbd.block bs hsz).trans hz;have HE1:=Hd (Zdo hsat.is hx hk.handles.nodup hf1);have HE2:=Hd (Zdo ⟨s,hmW⟩ hxW hk.handles.nodup hf2);have hop:=hG o w.drew xb mb m V f1 f2 ⟨s,hmW⟩ hlW hxW hk.store hsat.vars (hk.handles.ok _ hf1) (hk.handles.ok _ hf2);rw[show ef V f1=F1 from e1,show ef V f2=F2 from e2] at hop;have hat:AtC K 0 o w mb m V o w.drew m V:=(AtC.refl hsat.is hsat.lt hk.store).below hbd;obtain⟨P,hP⟩:∃ P:Ending->World->Prop,P=fun e w'=>(∃ (r:Nat) (o':Own) (m':ManD) (V':Nat->BF) (w1:World),e=.returned (.tuple #[])/\AtC K (2^n-1) o w mb m V o' w1 m' V'/\okE (Zaa m'.d) r/\ef V' r=G F1 F2/\w'=w1.setCell ⟨bs,0,none⟩ (.bool ((r:Int) == (e0:Int)))) \/
  (∃ er evt ev,e=Zdq er evt ev/\Zu3 K (2^n-1) o w mb m V er evt ev w'):=⟨_,rfl⟩
 have HOP:Hid (Calls Tryz.prog g #[.pointer (some ⟨xb,0,none⟩),.int .i64 f1,.int .i64 f2] w.drew fun e w'=>(∃ v,e=.returned v/\(w'.cell? ⟨bf,0,none⟩=some (.func (.func g) #[] #[])/\w'.cell? ⟨bb,0,none⟩=some (.int .i64 kb)/\w'.cell? ⟨bw,0,none⟩=some (.int .i64 e0))/\∃ r:Nat,v=.int .i64 r/\w'.cell? ⟨bs,0,none⟩=some (.bool z)/\w'.frozen? ⟨bs,0,none⟩=false/\P (.returned (.tuple #[])) (w'.setCell ⟨bs,0,none⟩ (.bool ((r:Int) == (e0:Int)))))\/(∃ ch,e=.panicked ch/\P (.panicked ch) w')):=Hd (hop.mono (by
  subst hP;rintro e w' (⟨r,o',m',V',rfl,q1,q2,q3⟩|⟨er,evt,ev,rfl,q⟩)
  ·
   have hz':w'.heap[bs]?=some (.cells #[.bool z] 4 (0,0)):=(q1.st.chg.alien (by rw[show w.drew.heap.size=w.heap.size from rfl];exact hsz) (hno bs (.inr rfl))).trans hzd;exact .inl ⟨_,rfl,⟨q1.st.chg.cell cf (hno bf (.inl (.inr (.inl rfl)))),q1.st.chg.cell cb (hno bb (.inl (.inr (.inr (.inl rfl))))),q1.st.chg.cell cw (hno bw (.inl (.inr (.inr (.inr rfl)))))⟩,r,rfl,cell1 hz',by simp[World.frozen?,hz'],.inl ⟨r,o',m',V',w',rfl,(hat.trans q1).mono (by omega),q2,q3,rfl⟩⟩
  ·
   exact .inr ⟨_,rfl,.inr ⟨er,evt,ev,rfl,q.after hat (by omega)⟩⟩))
 rw[<- hP];clear hG h1 h2 hsat hB hx hno hf1 hf2 e1 e2 hk hbd hms hmW hlW hxW hop hat hP hz hzd hsz
 go_enter Tryz.func230,Tryz.ntmps230
 go_wp2_with fail;refine HE1.out.mono ?_;rintro x w' ⟨rfl,rfl⟩;go_upto_region 1 with fail;refine Zeg (fun W:World=>W.cell? ⟨bf,0,none⟩=some (.func (.func g) #[] #[])/\W.cell? ⟨bb,0,none⟩=some (.int .i64 kb)/\W.cell? ⟨bw,0,none⟩=some (.int .i64 e0)) (fun ch w'=>P (.panicked ch) w') 10 (fun c a w hd h=>⟨hd,h⟩) (by kernel_rfl) ⟨cf,cb,cw⟩ ?_;refine Za3 0 rfl rfl (by kernel_rfl) ?_;apply Exists.intro;refine⟨fun w' hw=>?_,?_⟩
 ·
  obtain⟨q1,q2,q3⟩:=hw;go_simp;rfl
 simp only[Zai];refine Za3 1 rfl rfl (by kernel_rfl) ?_;apply Exists.intro;refine⟨fun w' hw=>?_,?_⟩
 ·
  obtain⟨q1,q2,q3⟩:=hw;go_simp;rfl
 simp only[Zai];refine Za3 2 rfl rfl (by kernel_rfl) ?_;apply Exists.intro;refine⟨fun w' hw=>?_,?_⟩
 ·
  obtain⟨q1,q2,q3⟩:=hw;go_simp;rfl
 simp only[Zai];refine Za3 3 rfl rfl (by kernel_rfl) ?_;apply Exists.intro;refine⟨fun w' hw=>?_,?_⟩
 ·
  obtain⟨q1,q2,q3⟩:=hw;go_simp;rfl
 simp only[Zai];refine Za3 4 rfl rfl (by kernel_rfl) ?_;apply Exists.intro;refine⟨fun w' hw=>?_,?_⟩
 ·
  obtain⟨q1,q2,q3⟩:=hw;go_simp;rfl
 simp only[Zai];refine Za3 7 rfl rfl (by kernel_rfl) ?_;apply Exists.intro;refine⟨fun w' hw=>?_,?_⟩
 ·
  obtain⟨q1,q2,q3⟩:=hw;go_simp;rfl
 simp only[Zai];refine Zc9 [5] (by kernel_rfl) (fun i hi hS o ho=>?_);simp only[Zba] at hi;subst hi;simp only[Za1] at ho;subst ho;refine⟨rfl,?_⟩;refine Zas (v:=.int .i64 (f2:Nat)) (R:=fun w'=>w.drew=w') (by go_simp) HE2.out ?_;rintro w' rfl;refine⟨⟨cf,cb,cw⟩,?_⟩;simp only[Zai];refine Zc9 [6] (by kernel_rfl) (fun i hi hS o ho=>?_);simp only[Zba] at hi;subst hi;simp only[Za1] at ho;subst ho;refine⟨rfl,?_⟩;refine Zh0 (R:=fun v w'=>(w'.cell? ⟨bf,0,none⟩=some (.func (.func g) #[] #[])/\w'.cell? ⟨bb,0,none⟩=some (.int .i64 kb)/\w'.cell? ⟨bw,0,none⟩=some (.int .i64 e0))/\∃ r:Nat,v=.int .i64 r/\w'.cell? ⟨bs,0,none⟩=some (.bool z)/\w'.frozen? ⟨bs,0,none⟩=false/\P (.returned (.tuple #[])) (w'.setCell ⟨bs,0,none⟩ (.bool ((r:Int) == (e0:Int))))) (R2:=fun ch w'=>P (.panicked ch) w') (by go_simp) HOP.out ?_ ?_
 ·
  rintro v w2 ⟨hS,r,rfl,cs,fz,hst⟩;refine⟨hS,?_⟩;have HST:=Hd hst;clear hst;simp only[Zai];refine Za3 8 rfl rfl (by kernel_rfl) ?_;apply Exists.intro;refine⟨fun w' hw=>?_,?_⟩
  ·
   obtain⟨q1,q2,q3⟩:=hw;go_simp;rfl
  simp only[Zai];refine Zc9 [9] (by kernel_rfl) (fun i hi hS o ho=>?_);simp only[Zba] at hi;subst hi;simp only[Za1] at ho;subst ho;refine⟨rfl,?_⟩;refine Zbc (w':=w2.setCell ⟨bs,0,none⟩ (.bool ((r:Int) == (e0:Int)))) rfl (by go_simp) ?_;have hkeep:∀ (b:Nat) (v:Value),w2.cell? ⟨b,0,none⟩=some v->b≠bs->(w2.setCell ⟨bs,0,none⟩ (.bool ((r:Int) == (e0:Int)))).cell? ⟨b,0,none⟩=some v:=fun b v hc hne=>(World.cell?_of_block (w:=w2) (a:=⟨b,0,none⟩) (Zad hne _)).trans hc
  have hne:∀ (b:Nat) (v:Value),w2.cell? ⟨b,0,none⟩=some v->(∀ y,v ≠ .bool y)->b≠bs:=fun b v hc hv e=>by
   subst e;rw[cs] at hc;exact hv z (Option.some.inj hc).symm
  refine⟨⟨hkeep _ _ hS.1 (hne _ _ hS.1 (by simp)),hkeep _ _ hS.2.1 (hne _ _ hS.2.1 (by simp)),hkeep _ _ hS.2.2 (hne _ _ hS.2.2 (by simp))⟩,?_⟩;simp only[Zai];refine Zjg (by kernel_rfl) ?_;clear hS cf cb ca cw cs fz hkeep hne;go_wp2_with fail;refine bodyPost_end (results_none rfl _ _ _) rfl ?_;exact HST.out
 ·
  intro ch w' hst;exact⟨rfl,hst⟩
abbrev C5 (ba bf bb bw bs:Nat) (k:Nat):Prop:=C4 ba bf bb bw k\/k=bs
theorem is1_op (hK:Zbu K) {g:Nat} {G:BF->BF->BF} (hG:Zqx K n g G) (eg:∀ args w,(callFunc g args).run Tryz.prog w=.ok (.enter g args) w) {ba bf bb bw bs e0:Nat} {ka kb:Int} {F1 F2:BF} (h1:(ka,F1)∈fs) (h2:(kb,F2)∈fs) (hbs:¬ C4 ba bf bb bw bs) (he0:e0/2=0) {b:Bool} (hb:b=true↔G F1 F2=Zi9 e0) (ws0:List Ev) (hn:nx<=549755813888) :
 OpL K n (fun _=>True) room w0 mb fs nx (C5 ba bf bb bw bs) (fun W=>BoI ba bf bb bw ka kb g e0 W/\∃ z:Bool,W.heap[bs]?=some (.cells #[.bool z] 4 (0,0))) (fun m=>m.waits <:+ ws0) 230 #[.pointer (some ⟨ba,0,none⟩),.pointer (some ⟨bf,0,none⟩),.pointer (some ⟨bb,0,none⟩),.pointer (some ⟨bw,0,none⟩),.pointer (some ⟨bs,0,none⟩)]
  (fun W m' _=>W.cell? ⟨bs,0,none⟩=some (.bool b)/\m'.waits <:+ ws0) (fun er m0 _=>er=7/\(∃ W o V,SatE K n (fun _=>True) room w0 mb fs nx W o m0 V)/\room+1<=m0.d.pool.many+(2^n-1)):=by
 intro o W m V xb hsat hB hC hst hcx hnx;obtain⟨hB,z,hz⟩:=hB;refine(is1_c hG eg h1 h2 hsat hB ⟨z,hz⟩ (fun c hc=>(hC c hc).2) hcx).mono ?_;have hkeep:∀ {o':Own} {w':World} {m':ManD} {V':Nat->BF},Step K o W mb m V o' w' m' V'->BoI ba bf bb bw ka kb g e0 w'/\w'.heap[bs]?=some (.cells #[.bool z] 4 (0,0)):=fun st=>⟨hB.keep fun c hc=>st.chg.alien (hC c (.inl hc)).1 (hC c (.inl hc)).2,(st.chg.alien (hC bs (.inr rfl)).1 (hC bs (.inr rfl)).2).trans hz⟩
 rintro e w' (⟨r,o',m',V',w1,rfl,q1,q2,q3,rfl⟩|⟨er,evt,ev,rfl,o',m',V',st,⟨rfl,rfl,rfl,a4,a5,a6⟩|⟨rfl,rfl,a3⟩⟩)
 ·
  obtain⟨k1,k2⟩:=hkeep q1.st;have hz':(w1.setCell ⟨bs,0,none⟩ (.bool ((r:Int) == (e0:Int)))).heap[bs]?=some (.cells #[.bool ((r:Int) == (e0:Int))] 4 (0,0)):=Zag k2 _;refine⟨o',m',V',(q1.st.toX _).write (D:=fun k=>k=bs) ((Wr.refl (fun k=>k=bs) w1).setCell (p:=⟨bs,0,none⟩) (.inl rfl) _) (fun k hk=>by subst hk;exact⟨.inr rfl,(hC _ (.inr rfl)).2,(hC _ (.inr rfl)).1⟩),⟨k1.keep fun c hc=>Zad (fun e=>hbs (by subst e;exact hc)) _,_,hz'⟩,.inl ⟨rfl,?_,by show m'.waits <:+ ws0;rw[q1.waits];exact hst⟩⟩;rw[cell1 hz'];have hbe:((r:Int) == (e0:Int))=b:=by
   rw[<- q3,<- Zs4 q1.st.ok he0,q1.st.ok.dag.canon_iff q2 (show okE (Zaa m'.d) e0 from .inl he0)] at hb;rw[Bool.eq_iff_iff,hb,beq_iff_eq];omega
  rw[hbe]
 ·
  obtain⟨k1,k2⟩:=hkeep st;exact⟨o',m',V',st.toX _,⟨k1,z,k2⟩,.inr (.inl ⟨7,rfl,by omega,a4,by show m'.waits <:+ ws0;rw[a4];exact hst,rfl,⟨_,_,_,hsat⟩,by rw[<- hsat.room,<- st.ext.room,<- a5];exact a6⟩)⟩
 ·
  obtain⟨k1,k2⟩:=hkeep st;have hst':m.waits <:+ ws0:=hst;rw[a3] at hst';exact⟨o',m',V',st.toX _,⟨k1,z,k2⟩,.inr (.inr ⟨ev,rfl,a3,fun _ _ m2 _ _ e _ _=>by show m2.waits <:+ ws0;rw[e];exact(List.suffix_cons ev m'.waits).trans hst',Zhv hn ev⟩)⟩
theorem boxes5v (w:World) (x y z u v:Value) (s t p q r:TypeId):∃ w5,w5=((((w.alloc (.cells #[x] s)).alloc (.cells #[y] t)).alloc (.cells #[z] p)).alloc (.cells #[u] q)).alloc (.cells #[v] r)/\Below w.heap.size w w5/\w5.heap.size=w.heap.size+5/\w5.cell? ⟨w.heap.size,0,none⟩=some x/\w5.cell? ⟨w.heap.size+1,0,none⟩=some y/\w5.cell? ⟨w.heap.size+1+1,0,none⟩=some z/\w5.cell? ⟨w.heap.size+1+1+1,0,none⟩=some u/\w5.heap[w.heap.size+1+1+1+1]?=some (.cells #[v] r (0,0)):=by
 obtain⟨w3,h3,hb,hz,c0,c1,c2⟩:=boxes3v w x y z s t p;refine⟨_,rfl,?_,?_,?_,?_,?_,?_,?_⟩<;>rw[<- h3]
 ·
  exact(hb.alloc (by omega) _).alloc (by simp;omega) _
 ·
  simp[hz]
 ·
  exact(World.cell?_of_block (w:=w3) (a:=⟨w.heap.size,0,none⟩) ((Go.heap_alloc_old _ _ (by simp;omega)).trans (Go.heap_alloc_old _ _ (by show w.heap.size<_;omega)))).trans c0
 ·
  exact(World.cell?_of_block (w:=w3) (a:=⟨w.heap.size+1,0,none⟩) ((Go.heap_alloc_old _ _ (by simp;omega)).trans (Go.heap_alloc_old _ _ (by show w.heap.size+1<_;omega)))).trans c1
 ·
  exact(World.cell?_of_block (w:=w3) (a:=⟨w.heap.size+1+1,0,none⟩) ((Go.heap_alloc_old _ _ (by simp;omega)).trans (Go.heap_alloc_old _ _ (by show w.heap.size+1+1<_;omega)))).trans c2
 ·
  have:=heap_alloc_new w3 (.cells #[u] q);rw[hz] at this;exact cell1 ((Go.heap_alloc_old _ _ (by simp;omega)).trans this)
 ·
  have:=heap_alloc_new (w3.alloc (.cells #[u] q)) (.cells #[v] r);rw[World.size_alloc,hz] at this;exact this
def IsP (K:Law) (n room:Nat) (w0:World) (mb:Nat) (fs:List (Int×BF)) (nx:Int) (ws0:List Ev) (b:Bool) (o:Own) (w:World) (x:Ending) (w':World):Prop :=
 x=.returned (.tuple #[.bool b,.int .i64 0])/\∃ o' m' V',ChgX NoB o o' w w'/\m'.waits <:+ ws0/\SatE K n (fun _=>True) room w0 mb fs nx w' o' m' V'
theorem is_op (hK:Zbu K) {g:Nat} {G:BF->BF->BF} (hG:Zqx K n g G) (eg:∀ args w,(callFunc g args).run Tryz.prog w=.ok (.enter g args) w) (h:SatE K n (fun _=>True) room w0 mb fs nx w o m V) {e0:Nat} {ka kb:Int} {F1 F2:BF} (h1:(ka,F1)∈fs) (h2:(kb,F2)∈fs) (he0:e0/2=0) {b:Bool} (hb:b=true↔G F1 F2=Zi9 e0) {ws0:List Ev} (hst:m.waits <:+ ws0) (hn:nx<=549755813888) (hr:fs.length*2^n+(2^n-1)<=room) :
 Calls Tryz.prog 149 #[.pointer (some ⟨mb,0,none⟩),.func (.func g) #[] #[],.int .i64 ka,.int .i64 kb,.int .i64 e0] w (IsP K n room w0 mb fs nx ws0 b o w):=by
 have hmf:∀ (fn:Fn) (first cap:Array Value) (w:World),(Instr.makeFunc fn first cap).run Tryz.prog w=.ok (.func fn first cap) w:=fun _ _ _ _=>rfl
 obtain⟨w5,hw5,hb5,hz5,c0,c1,c2,c3,c4⟩:=boxes5v w (.func (.func g) #[] #[]) (.int .i64 ka) (.int .i64 kb) (.int .i64 e0) (.bool false) 267 3 3 159 4;have HW5:Hid (_=w5):=Hd hw5.symm;have hw0:=h.chg.size;have hop:=is1_op (room:=room) (w0:=w0) (mb:=mb) (ba:=w.heap.size+1) (bf:=w.heap.size) (bb:=w.heap.size+1+1) (bw:=w.heap.size+1+1+1) (bs:=w.heap.size+1+1+1+1) hK hG eg h1 h2 (by unfold C4;omega) he0 hb ws0 hn;obtain⟨s,hs⟩:∃ s,s=w.heap.size+1+1+1+1:=⟨_,rfl⟩
 have HL:Hid (Calls Tryz.prog 229 #[.pointer (some ⟨mb,0,none⟩),.func (.func 230) #[] #[.pointer (some ⟨w.heap.size+1,0,none⟩),.pointer (some ⟨w.heap.size,0,none⟩),.pointer (some ⟨w.heap.size+1+1,0,none⟩),.pointer (some ⟨w.heap.size+1+1+1,0,none⟩),.pointer (some ⟨w.heap.size+1+1+1+1,0,none⟩)]] w5 fun x w'=>x=.returned (.int .i64 0)/\w'.cell? ⟨w.heap.size+1+1+1+1,0,none⟩=some (.bool b)/\IsP K n room w0 mb fs nx ws0 b o w (.returned (.tuple #[.bool b,.int .i64 0])) w'):=Hd (by
  refine(look_gen (fun W W' hB hk=>⟨hB.1.keep fun c hc=>hk c (.inl hc),hB.2.imp fun z hz=>(hk _ (.inr rfl)).trans hz⟩) (fun W W' m V hq hk=>⟨(World.cell?_of_block (w:=W) (a:=⟨w.heap.size+1+1+1+1,0,none⟩) (hk _ (.inr rfl))).trans hq.1,hq.2⟩) (fun m d hm _=>hm) (fun c hc=>?_) enters_is1 hop (h.below hb5) ⟨⟨c1,c0,c2,c3⟩,false,c4⟩ (fun c hc=>?_) hst).mono ?_
  ·
   rcases hc with (rfl|rfl|rfl|rfl)|rfl<;>omega
  ·
   rcases hc with (rfl|rfl|rfl|rfl)|rfl<;>exact⟨by omega,h.lt.none (by omega)⟩
  ·
   rintro x w' ⟨er,rfl,o',m',V',hs',_,hc,⟨rfl,hq1,hq2⟩|⟨_,m0,⟨e7,⟨W,oo,VV,hs0⟩,h5⟩,h6⟩⟩
   ·
    refine⟨rfl,hq1,rfl,o',m',V',(ChgX.of_below hb5 o NoB).trans hc (fun k hk e=>?_),hq2,hs'⟩;rcases e with (rfl|rfl|rfl|rfl)|rfl<;>omega
   ·
    exfalso;have:=hs0.few (h6 e7);omega)
 clear hw5 hb5 hz5 c0 c1 c2 c3 c4 h hK hG hst hn hr h1 h2 hop hw0 hb he0;obtain⟨P,hP⟩:∃ P,P=IsP K n room w0 mb fs nx ws0 b o w:=⟨_,rfl⟩;rw[<- hP] at HL ⊢;clear hP;rw[<- hs] at HL;have HS:=Hd hs;clear hs
 go_enter Tryz.func149,Tryz.ntmps149
 go_upto_region 2 with fail;rw[HW5.out];rw[<- HS.out];go_wp2_with fail;refine HL.out.mono ?_;rintro x w' ⟨rfl,hc,hf⟩;have HF:=Hd hf;clear hf HL;cases b with
 | true =>
   go_wp2_with fail;exact HF.out
 | false =>
   go_wp2_with fail;exact HF.out
end
open Go.RowKit
section
variable {K:Law} {n:Nat} {room:Nat} {w0 w:World} {mb:Nat} {fs:List (Int×BF)} {nx:Int} {o:Own} {m:ManD} {V:Nat->BF} {ws0:List Ev}
theorem ops_and (hK:Zbu K) (h:SatE K n (fun _=>True) room w0 mb fs nx w o m V) {c:Nat} {a:Option Addr} {ks:List Int} {Fs:List BF} (hl:ArgL fs w0 w o a ks Fs) (hst:m.waits <:+ ws0) (hn:nx<=549755813888) (hr:fs.length*2^n+ks.length*(2^n-1)<=room) :
 Calls Tryz.prog 122 #[.pointer (some ⟨mb,0,none⟩),.slice a ks.length c] w (NewF K n room w0 mb fs nx ws0 (Zim andF (Zi9 0) Fs) o w):=by
 have HC:=Hd (Zvk (c:=c) hK (op_and hK) enters_and h (e0:=0) rfl hl.z hl.own hl.len hl.mem hst hn hr);clear h hK hl hst hn hr;obtain⟨P,hP⟩:∃ P,P=NewF K n room w0 mb fs nx ws0 (Zim andF (Zi9 0) Fs) o w:=⟨_,rfl⟩;rw[<- hP] at HC ⊢;have HT:Hid (∀ x w',P x w'->∃ a b,x=.returned (.tuple #[.int .i64 a,.int .i64 b])):=Hd (by subst hP;rintro x w' ⟨rfl,_⟩;exact⟨_,_,rfl⟩);clear hP
 go_enter Tryz.func122,Tryz.ntmps122
 go_wp2_with fail;refine HC.out.mono ?_;intro x w' hd;obtain⟨a,b,rfl⟩:=HT.out x w' hd;have HD:=Hd hd;clear hd;go_wp2_with fail;exact HD.out
theorem meets_any (hK:Zbu K) (h:SatE K n (fun _=>True) room w0 mb fs nx w o m V) {ka kb:Int} {F1 F2:BF} (h1:(ka,F1)∈fs) (h2:(kb,F2)∈fs) {b:Bool} (hb:b=true↔andF F1 F2=Zi9 1) (hst:m.waits <:+ ws0) (hn:nx<=549755813888) (hr:fs.length*2^n+(2^n-1)<=room) :
 Calls Tryz.prog 60 #[.pointer (some ⟨mb,0,none⟩),.int .i64 ka,.int .i64 kb] w (IsP K n room w0 mb fs nx ws0 (!b) o w):=by
 have HC:=Hd (is_op hK (op_and hK) enters_and h (e0:=1) h1 h2 rfl hb hst hn hr);clear h hK h1 h2 hst hn hr hb
 go_enter Tryz.func60,Tryz.ntmps60
 go_wp2_with fail;refine HC.out.mono ?_;rintro x w' ⟨rfl,hd⟩;have HD:Hid (IsP K n room w0 mb fs nx ws0 (!b) o w (.returned (.tuple #[.bool (!b),.int .i64 0])) w'):=Hd ⟨rfl,hd⟩;clear hd;cases b with
 | true =>
   go_wp2_with fail
   go_ret2
   exact HD.out
 | false =>
   go_wp2_with fail
   go_ret2
   exact HD.out
end
open Go.RowKit
section
variable {K:Law} {n room L:Nat} {Od:List Nat->Prop} {w0 w wb W:World} {mb g:Nat} {fs bs r:List (Int×BF)} {nx:Int} {o o0:Own} {m:ManD} {V:Nat->BF} {ws0:List Ev} {C:Nat->Prop} {B:Nat->World->Own->Prop} {lop:Array Value} {Φ:BF->BF} {er:Nat->Int} {c:Int}
theorem andF_fold (F G:BF):Zim andF (Zi9 0) [F,G]=andF F G:=by
 funext ρ
 show iteB (iteB true (F ρ) false) (G ρ) false=iteB (F ρ) (G ρ) false
 cases F ρ<;>cases G ρ<;>rfl
theorem FxS.and2 (hK:Zbu K) {B:World->Own->Prop} (hB:Zdy B) (h:FxS K n room w0 mb ws0 C o0 wb B fs nx W) {k1 k2:Int} {F1 F2:BF} (h1:(k1,F1)∈fs) (h2:(k2,F2)∈fs) (hn:nx<=549755813888) (hr:(fs.length+2)*2^n<=room) {T:World} (hT:T=W.alloc (.cells #[.int .i64 k1,.int .i64 k2] 3)) :
 Calls Tryz.prog 122 #[.pointer (some ⟨mb,0,none⟩),.slice (some ⟨W.heap.size,0,none⟩) 2 2] T fun x w'=>x=.returned (.tuple #[.int .i64 nx,.int .i64 0])/\FxS K n room w0 mb ws0 C o0 wb B (fs++[(nx,andF F1 F2)]) (nx+1) w':=by
 subst hT;have hb:=Zaf W (.cells #[.int .i64 k1,.int .i64 k2] 3);obtain⟨o,m,V,q1,q2,q3,q4⟩:=h;have hc:=ChgX.of_below hb o NoB
 have ha:=Zu6 q3 (ks:=[k1,k2]) (Fs:=[F1,F2]) (by simp) rfl (fun i hi=>by
  rcases(show i=0\/i=1 by simp at hi;omega) with rfl|rfl
  ·
   exact h1
  ·
   exact h2)
 refine(ops_and (c:=2) hK (q3.below hb) ha q2 hn (by rw[Nat.add_mul] at hr;simp;omega)).mono ?_;rintro x w' ⟨r1,o',m',V',r2,r3,r4⟩;rw[andF_fold] at r4;exact⟨r1,o',m',V',(q1.trans hc NoB.sub).trans r2 NoB.sub,r3,r4,hB _ _ _ _ q4 (hc.trans r2 NoB.sub)⟩
theorem FxS.drop1_d (hK:Zbu K) {B:World->Own->Prop} (hB:Zdy B) (hb:B2 fs) {k:Int} {F:BF} (h:FxS K n room w0 mb ws0 C o0 wb B (fs++((k,F)::r)) nx W) (hn:nx<549755813888) {b:Nat} (hbx:∀ o m V,SatE K n (fun _=>True) room w0 mb (fs++((k,F)::r)) nx W o m V->B W o->BoxA b 0 (.int .i64 k) W o) (u:FrameMode) :
 CallsD Tryz.prog 118 #[.pointer (some ⟨mb,0,none⟩),.slice (some ⟨b,0,none⟩) 1 1] u W fun x u' w'=>u'=u/\x=.returned (.int .i64 0)/\FxS K n room w0 mb ws0 C o0 wb B (fs++r) nx w':=by
 obtain⟨o,m,V,h1,h2,h3,h4⟩:=h;have hx:=hbx o m V h3 h4;refine(manDrop_mid_d (c:=1) (hs:=[(k,F)]) (r:=r) hK h3 hb hn (a:=some ⟨b,0,none⟩) ⟨by simp,fun i hi=>?_⟩ (fun x hx'=>by cases hx';exact hx.2) u).mono ?_
 ·
  obtain rfl:i=0:=by simpa using hi
  exact⟨b,0,rfl,by simpa [at0] using hx.1⟩
 ·
  rintro x u' w' ⟨q0,q1,o',m',hh⟩;have hc:=ChgX.of_chg hh.chg NoB;exact⟨q0,q1,o',m',V,h1.trans hc NoB.sub,by rw[hh.waits];exact h2,hh.sat,hB _ _ _ _ h4 hc⟩
theorem withOr_any (hK:Zbu K) {B:World->Own->Prop} (hB:Zdy B) (hb:B2 fs) {q h:Int} {Q H:BF} (hst:FxS K n room w0 mb ws0 C o0 wb B (fs++[(h,H)]) nx W) (hq:(q,Q)∈fs) (hn:nx+1<549755813888) (hr:(fs.length+3)*2^n<=room) :
 Calls Tryz.prog 115 #[.agg #[.pointer (some ⟨mb,0,none⟩),.int .i64 q],.int .i64 h] W fun x w'=>x=.returned (.tuple #[.int .i64 nx,.int .i64 0])/\FxS K n room w0 mb ws0 C o0 wb B (fs++[(nx,orF Q H)]) (nx+1) w':=by
 obtain⟨w2,hw2⟩:∃ w2,w2=(W.alloc (.cells #[.pointer (some ⟨mb,0,none⟩),.int .i64 q] 165)).alloc (.cells #[.int .i64 h] 3):=⟨_,rfl⟩;have HW2:Hid (_=w2):=Hd hw2.symm;have hs1:FxS K n room w0 mb ws0 C o0 wb B (fs++[(h,H)]) nx (W.alloc (.cells #[.pointer (some ⟨mb,0,none⟩),.int .i64 q] 165)):=hst.below hB (Zaf _ _);have hblk:=heap_alloc_new W (.cells #[.pointer (some ⟨mb,0,none⟩),.int .i64 q] 165);have c0:w2.cell? ⟨W.heap.size,0,none⟩=some (.pointer (some ⟨mb,0,none⟩)):=by
  rw[hw2,((Zaf _ _).cell (p:=⟨W.heap.size,0,none⟩) (by simp)),cell_of_row _ _ 0 _ _ _ hblk];rfl
 have c1:w2.cell? ⟨W.heap.size,1,none⟩=some (.int .i64 q):=by
  rw[hw2,((Zaf _ _).cell (p:=⟨W.heap.size,1,none⟩) (by simp)),cell_of_row _ _ 1 _ _ _ hblk];rfl
 have hs2:=Zpq hB hs1 (vs:=#[.int .i64 h]) (t:=3) (k:=0) (v:=.int .i64 h) rfl;rw[World.size_alloc,<- hw2] at hs2;have hB2:Zdy (fun W' o=>B W' o/\BoxA (W.heap.size+1) 0 (.int .i64 h) W' o):=hB.and BoxA.keep;have HOR:=Hd (hs2.or2 hK hB2 (k1:=q) (k2:=h) (F1:=Q) (F2:=H) (List.mem_append_left _ hq) (by simp) (by omega) (by simpa using hr) rfl);have HB:=Hd hB;have HB2:=Hd hB2;have HBB:=Hd hb;have HK:=Hd hK;clear hs1 hs2 hblk hw2 hst hB hB2 hb hK hq hr
 go_enter_defers Tryz.func115,Tryz.ntmps115
 go_upto_region 2 with fail;rw[HW2.out];go_wp2_with fail;refine HOR.out.mono ?_;rintro x w3 ⟨rfl,h3⟩;rw[List.append_assoc] at h3;have HD:=Hd (FxS.drop1_d HK.out HB2.out HBB.out h3 (by omega) (b:=W.heap.size+1) (fun o m V _ hh=>hh.2) .returning);clear h3 HOR;go_wp2_with fail;refine leaves_cons (f:=118) (args:=#[.pointer (some ⟨mb,0,none⟩),.slice (some ⟨W.heap.size+1,0,none⟩) 1 1]) (by simp) (by simp[go_sem]) ?_;refine HD.out.mono ?_;rintro e u' w4 ⟨rfl,rfl,h4⟩;exact⟨_,results_tmp2 rfl _ _ _,rfl,h4.withB fun o m V _ hh=>hh.1⟩
end
open Go.RowKit
theorem enters_until1 (args:Array Value) (w:World):(callFunc 116 args).run Tryz.prog w=.ok (.enter 116 args) w:=enters_of Tryz.func116 (by kernel_rfl) rfl args w
theorem enters_withOr (args:Array Value) (w:World):(callFunc 115 args).run Tryz.prog w=.ok (.enter 115 args) w:=enters_of Tryz.func115 (by kernel_rfl) rfl args w
theorem BoxA.keepC {C:Nat->Prop} {b k:Nat} {v:Value} (h:¬ C b):Zsb C (BoxA b k v):=fun _ _ _ _ hb hc=>⟨hc.cell hb.1 hb.2 h,hc.none' (Zab hb.1) hb.2⟩
theorem Zsb.and {C:Nat->Prop} {A B:World->Own->Prop} (hA:Zsb C A) (hB:Zsb C B):Zsb C fun W o=>A W o/\B W o:=fun _ _ _ _ h hc=>⟨hA _ _ _ _ h.1 hc,hB _ _ _ _ h.2 hc⟩
theorem Zsb.keep {C:Nat->Prop} {B:World->Own->Prop} (h:Zsb C B):Zdy B:=fun _ _ _ _ hb hc=>h _ _ _ _ hb (hc.mono fun _ e=>e.elim)
section
variable {K:Law} {n room L:Nat} {w0 w wb W:World} {mb g:Nat} {fs bs r:List (Int×BF)} {nx:Int} {o o0:Own} {m:ManD} {V:Nat->BF} {ws0:List Ev} {C:Nat->Prop} {B:Nat->World->Own->Prop} {lop:Array Value} {Φ:BF->BF} {er:Nat->Int} {c:Int}
theorem Zj7.withB {B':Nat->World->Own->Prop} {j0:Nat} {F0:BF} {x:Ending} {w':World} (h:Zj7 K n room w0 mb ws0 C o0 wb B Φ er c j0 F0 fs nx x w') (hB:∀ j W o,B j W o->B' j W o):Zj7 K n room w0 mb ws0 C o0 wb B' Φ er c j0 F0 fs nx x w':=by
 obtain⟨s,nx',q1,q2,q3,q⟩:=h;refine⟨s,nx',q1,q2,q3,?_⟩;rcases q with ⟨p,k,r1,r2,r3,r4,r5⟩|⟨k,r1,r2,r3,r4,r5,r6⟩|⟨r1,r2,r3,r4,r5⟩
 ·
  exact .inl ⟨p,k,r1,r2,r3,r4,r5.withB fun _ _ _ _ h=>hB _ _ _ h⟩
 ·
  exact .inr (.inl ⟨k,r1,r2,r3,r4,r5,r6.withB fun _ _ _ _ h=>hB _ _ _ h⟩)
 ·
  exact .inr (.inr ⟨r1,r2,r3,r4,r5.withB fun _ _ _ _ h=>hB _ _ _ h⟩)
def UnB (bf ba mb g:Nat) (lop:Array Value) (q:Int):World->Own->Prop:=fun W o=>BoxA bf 0 (.func (.func g) #[] lop) W o/\BoxA ba 0 (.func (.func 115) #[.agg #[.pointer (some ⟨mb,0,none⟩),.int .i64 q]] #[]) W o
theorem until1_f (hK:Zbu K) (hf:FunC K n room w0 mb ws0 L C B bs g lop Φ er c) {bf ba:Nat} {q:Int} {Q:BF} (n1:¬ C bf) (n2:¬ C ba) (hr:(L+4)*2^n<=room) :
 FunC K n room w0 mb ws0 L C (fun j W o=>B j W o/\UnB bf ba mb g lop q W o) ((q,Q)::bs) 116 #[.pointer (some ⟨bf,0,none⟩),.pointer (some ⟨ba,0,none⟩)] (fun F=>orF Q (Φ F)) er (c+2):=by
 have hBK:Zsb C (UnB bf ba mb g lop q):=(BoxA.keepC n1).and (BoxA.keepC n2);have hc:=hf.nat;refine⟨enters_until1,fun j=>(hf.keep j).and hBK.keep,by omega,fun j hj o0 wb W fs nx h F hst hb hbs hk hn hl=>?_⟩;have HC:=Hd (hf.callB hBK j hj hst hb (fun p hp=>hbs p (List.mem_cons_of_mem _ hp)) hk (by omega) hl);have hq:(q,Q)∈fs:=hbs _ (List.mem_cons_self ..);obtain⟨o1,m1,V1,_,_,_,_,⟨c1,_⟩,_⟩:=hst;have HOR:Hid (∀ w1 p nx',FxS K n room w0 mb ws0 C o0 wb (fun W o=>B (j+1) W o/\UnB bf ba mb g lop q W o) (fs++[(p,Φ F)]) nx' w1->nx'<=nx+c->Calls Tryz.prog 115 #[.agg #[.pointer (some ⟨mb,0,none⟩),.int .i64 q],.int .i64 p] w1 fun x w'=>x=.returned (.tuple #[.int .i64 nx',.int .i64 0])/\FxS K n room w0 mb ws0 C o0 wb (fun W o=>B (j+1) W o/\UnB bf ba mb g lop q W o) (fs++[(nx',orF Q (Φ F))]) (nx'+1) w') :=
  Hd fun w1 p nx' hs hle=>withOr_any hK ((hf.keep (j+1)).and hBK.keep) hb hs hq (by omega) (Nat.le_trans (Nat.mul_le_mul_right _ (by omega)) hr)
 have eg:=hf.enters;have eg2:=enters_withOr;obtain⟨ez,hez⟩:∃ z,z=er j:=⟨_,rfl⟩;rw[<- hez] at HC ⊢;obtain⟨P,hP⟩:∃ P:Ending->World->Prop,P=fun e w'=>∃ p nx',e=.returned (.tuple #[.int .i64 p,.int .i64 ez])/\nx<=nx'/\nx'<=nx+(c+2) /\
  (ez=0->FxS K n room w0 mb ws0 C o0 wb (fun W o=>B (j+1) W o/\UnB bf ba mb g lop q W o) (fs++[(p,orF Q (Φ F))]) nx' w')/\(ez≠0->FxS K n room w0 mb ws0 C o0 wb (fun W o=>B (j+1) W o/\UnB bf ba mb g lop q W o) fs nx' w'):=⟨_,rfl⟩
 have HPE:Hid (_=P):=Hd hP.symm
 show Calls _ _ _ _ _
 rw[<- hP];clear hP hez hf hBK hb hbs hk hq n1 n2 hr hl hK
 show Calls _ _ #[_,_,_] _ _
 go_enter Tryz.func116,Tryz.ntmps116
 go_wp2_with fail;refine HC.out.mono ?_;rintro x w1 ⟨p,nx',rfl,hlo,hhi,h0,h1⟩
 by_cases he:ez=0
 ·
  have hne:(ez != 0)=false:=by rw[he];rfl
  have hs:=h0 he;have HO:=Hd (HOR.out w1 p nx' hs hhi);obtain⟨o2,m2,V2,_,_,_,_,_,⟨c2,_⟩⟩:=hs;have HLE:=Hd (show nx<=nx'/\nx'<=nx+c from ⟨hlo,hhi⟩);clear h0 h1 HC HOR hlo hhi c1;subst he;go_wp2_with fail;refine HO.out.mono ?_;rintro x w2 ⟨rfl,h2⟩;have HF:=Hd h2;clear h2 HO
  have HR:Hid (P (.returned (.tuple #[.int .i64 nx',.int .i64 0])) w2):=Hd (by
   rw[<- HPE.out];have:=HLE.out;exact⟨nx',nx'+1,rfl,by omega,by omega,fun _=>HF.out,fun e=>(e rfl).elim⟩)
  go_wp2_with fail;exact HR.out
 ·
  have hne:(ez != 0)=true:=by simp[he]
  have HF:=Hd (h1 he);have HE:=Hd he;have HLE:=Hd (show nx<=nx'/\nx'<=nx+c from ⟨hlo,hhi⟩);clear h0 h1 HC HOR he hlo hhi c1
  have HR:Hid (P (.returned (.tuple #[.int .i64 0,.int .i64 ez])) w1):=Hd (by
   rw[<- HPE.out];have:=HLE.out;exact⟨0,nx',rfl,by omega,by omega,fun e=>(HE.out e).elim,fun _=>HF.out⟩)
  go_wp2_with fail;exact HR.out
theorem until_any (hK:Zbu K) (hf:FunC K n room w0 mb ws0 L C B bs g lop Φ er c) (hC:∀ k,C k->k<W.heap.size) (j0:Nat) (hj0:j0<=900000) (h:FxS K n room w0 mb ws0 C o0 wb (B j0) fs nx W) (hb:B2 fs) (hbs:∀ p∈bs,p∈fs) {q:Int} {Q:BF} (hq:(q,Q)∈fs) (hn:nx+1+4097*(c+2)<549755813888) (hl:fs.length+1<=L) (hr:(L+4)*2^n<=room) :
 Calls Tryz.prog 42 #[.pointer (some ⟨mb,0,none⟩),.int .i64 q,.func (.func g) #[] lop] W (Zj7 K n room w0 mb ws0 C o0 wb B (fun F=>orF Q (Φ F)) er (c+2) j0 Q fs nx):=by
 have hmf:∀ (fn:Fn) (first cap:Array Value) (w:World),(Instr.makeFunc fn first cap).run Tryz.prog w=.ok (.func fn first cap) w:=fun _ _ _ _=>rfl
 obtain⟨w1,hw1⟩:∃ w1,w1=W.alloc (.cells #[.func (.func g) #[] lop] 55):=⟨_,rfl⟩;have HW1:Hid (_=w1):=Hd hw1.symm;have hb1:Below W.heap.size W w1:=by rw[hw1];exact Zaf _ _
 have hz1:w1.heap.size=W.heap.size+1:=by rw[hw1];simp
 have hs1:=Zpq (hf.keep j0) h (vs:=#[.func (.func g) #[] lop]) (t:=55) (k:=0) (v:=.func (.func g) #[] lop) rfl;rw[<- hw1] at hs1;have c1:w1.cell? ⟨W.heap.size,0,none⟩=some (.func (.func g) #[] lop):=by
  obtain⟨_,_,_,_,_,_,_,h5⟩:=hs1;exact h5.1
 obtain⟨w2,hw2⟩:∃ w2,w2=w1.alloc (.cells #[.nilFunc] 55):=⟨_,rfl⟩;have HW2:Hid (_=w2):=Hd hw2.symm;have g2:w2.heap[w1.heap.size]?=some (.cells #[.nilFunc] 55 (0,0)):=by rw[hw2];exact heap_alloc_new _ _
 have hb2:Below w1.heap.size w1 w2:=by rw[hw2];exact Zaf _ _
 obtain⟨w3,hw3⟩:∃ w3,w3=w2.setCell ⟨w1.heap.size,0,none⟩ (.func (.func 115) #[.agg #[.pointer (some ⟨mb,0,none⟩),.int .i64 q]] #[]):=⟨_,rfl⟩;have HW3:Hid (_=w3):=Hd hw3.symm;have g3:w3.heap[w1.heap.size]?=some (.cells #[.func (.func 115) #[.agg #[.pointer (some ⟨mb,0,none⟩),.int .i64 q]] #[]] 55 (0,0)):=by rw[hw3];exact Zag g2 _
 have hb3:Below w1.heap.size w1 w3:=by rw[hw3];exact hb2.setCell (p:=⟨w1.heap.size,0,none⟩) (Nat.le_refl _) _
 have hsto:(store ⟨w1.heap.size,0,none⟩ (.func (.func 115) #[.agg #[.pointer (some ⟨mb,0,none⟩),.int .i64 q]] #[])).run Tryz.prog w2=.ok () w3:=by
  rw[run_store _ _ _ _ _ rfl];simp[cell1 g2,World.frozen?,g2,hw3]
 rw[hw2] at hsto;have c3:=(hb3.cell (p:=⟨W.heap.size,0,none⟩) (Zab c1)).trans c1;have hs3:FxS K n room w0 mb ws0 C o0 wb (fun W' o=>B j0 W' o/\UnB W.heap.size w1.heap.size mb g lop q W' o) fs nx w3:=by
  obtain⟨o,m,V,q1,q2,q3,q4,q5⟩:=hs1;have hc:=ChgX.of_below hb3 o NoB;exact⟨o,m,V,q1.trans hc NoB.sub,q2,q3.below hb3,hf.keep j0 _ _ _ _ q4 hc,⟨c3,q5.2⟩,cell1 g3,q3.lt.none (Nat.le_refl _)⟩
 have n1:¬ C W.heap.size:=fun e=>by have:=hC _ e;omega
 have n2:¬ C w1.heap.size:=fun e=>by have:=hC _ e;omega
 have HM:Hid (Calls Tryz.prog 113 #[.pointer (some ⟨mb,0,none⟩),.int .i64 q,.func (.func g) #[] lop] w1 fun x w'=>x=.returned (.int .i64 0)/\w1=w'):=Hd (hs1.ask fun o m V hs=>Zlu (nil:=false) hs (.inr ⟨⟨_,hq⟩,.inr ⟨rfl,rfl⟩⟩));obtain⟨P,hP⟩:∃ P,P=Zj7 K n room w0 mb ws0 C o0 wb B (fun F=>orF Q (Φ F)) er (c+2) j0 Q fs nx:=⟨_,rfl⟩
 have HG:Hid (Calls Tryz.prog 114 #[.pointer (some ⟨mb,0,none⟩),.int .i64 q,.func (.func 116) #[] #[.pointer (some ⟨W.heap.size,0,none⟩),.pointer (some ⟨w1.heap.size,0,none⟩)]] w3 P):=Hd ((Zpx hK (until1_f (Q:=Q) hK hf n1 n2 hr) j0 hj0 hs3 hb (fun p hp=>by
  rcases List.mem_cons.1 hp with rfl|hp
  ·
   exact hq
  ·
   exact hbs p hp) hq hn hl).mono fun x w' h=>by rw[hP];exact h.withB fun _ _ _ h=>h.1)
 have HT:Hid (∀ x w',P x w'->∃ a b d,x=.returned (.tuple #[.int .i64 a,.int .i64 b,.int .i64 d])):=Hd (by subst hP;exact fun x w' h=>h.three);rw[<- hP];clear hP h hf hb hbs hK hs1 hs3 hq n1 n2 hC hb1 hb2 hb3 g2 g3 c3 hw1 hw2 hw3 hz1
 go_enter Tryz.func42,Tryz.ntmps42
 go_upto_region 1 with fail;rw[HW1.out];go_wp2_with fail;refine HM.out.mono ?_;rintro x w' ⟨rfl,rfl⟩;go_upto_region 5 with fail;go_wp2_with fail;refine HG.out.mono ?_;intro x w' hd;obtain⟨a,b,d,rfl⟩:=HT.out x w' hd;have HD:=Hd hd;clear hd;go_wp2_with fail;refine bodyPost_ret (results_tmp3 rfl _ _ _) rfl ?_;exact HD.out
end
open Go.RowKit
theorem Chg.none' {R:Role->Prop} {o o':Own} {w w':World} (h:Chg R o o' w w') {k:Nat} (hk:k<w.heap.size) (ho:o k=none):o' k=none:=(ChgX.of_chg h NoB).none' hk ho

open Go.RowKit
section
variable {P:Program} {S:World->Prop} {Q:Exit->Act->World->Prop} {R:List PanicEntry->World->Prop}
def Nx (_:List Nat) (P:Program) (l:List Oper) (Q:Exit->Act->World->Prop) (R:List PanicEntry->World->Prop) (S:World->Prop) (f:Nat) (L:Array Bool) (a:Act) (w:World):Prop:=Zmo P l Q R S l.length f L a w
theorem nx_start (pl:List Nat) {id:Nat} {a:Act} {w:World} {l:List Oper} (S:World->Prop) (R:List PanicEntry->World->Prop) (hR:∀ c (a:Act) w,a.defers=[]->R c w->Q (.panic c) a w) (hm:P.follows .mixedOrders=true) (hS:S w.drew)
 (h:Nx pl P l Q R S l.length (Array.replicate l.toArray.size false) a w.drew):(Code.region id l.toArray true).wp P Q a w:=Zeg S R l.length hR hm hS h
theorem nx_read {i:Nat} {pl:List Nat} {l:List Oper} {f:Nat} {L:Array Bool} {a:Act} {w:World} {o:Oper} (hi:l[i]?=some o) (hg:o.guard=none)
 (hB:(Region.noSelect l.toArray&&(Region.ready .any l.toArray L).contains i&&Region.free .any l.toArray L i)=true)
 (h:∃ v,(∀ w,S w->(execOp a.eval o).run P w=.ok (.value v) w)/\Nx pl P l Q R S f (L.setIfInBounds i true) (a.put o.dst v) w):Nx (i::pl) P l Q R S (f+1) L a w :=
 Za3 _ hi hg (by rw[hB];simp) h
theorem nx_call {i:Nat} {pl:List Nat} {l:List Oper} {f:Nat} {L:Array Bool} {a:Act} {w:World} {o:Oper} {g:FuncId} {args:Array Value} {R1:Value->World->Prop} (hi:l[i]?=some o) (hr:decide (Region.ready .any l.toArray L=[i])=true)
 (hg:Region.wanted o (yielded l.toArray a.tmps)=true) (hd:a.defers=[]) (he:(execOp a.eval o).run P w=.ok (.enter g args) w)
 (hc:Calls P g args w fun e w'=>(∃ v,e=.returned v/\S w'/\R1 v w')\/(∃ ch,e=.panicked ch/\R ch w'))
 (h:∀ v w',S w'->R1 v w'->Nx pl P l Q R S f (L.setIfInBounds i true) (a.put o.dst v) w'):Nx (i::pl) P l Q R S (f+1) L a w:=by
 refine Zc9 [i] (by rw[Bool.and_eq_true];exact⟨hr,rfl⟩) fun j hi2 hS o2 ho2=>?_
 rw[List.mem_singleton] at hi2;subst hi2;rw[hi] at ho2;cases ho2;refine⟨hg,?_⟩;refine Zh0 (R:=fun v w'=>S w'/\R1 v w') (R2:=R) he (hc.mono ?_) (fun v w' hh=>⟨hh.1,h v w' hh.1 hh.2⟩) (fun ch w' hh=>⟨hd,hh⟩);rintro e w' (⟨v,h1,h2⟩|hh)
 ·
  exact .inl ⟨v,h1,h2⟩
 ·
  exact .inr hh
theorem nx_callR {i:Nat} {pl:List Nat} {l:List Oper} {f:Nat} {L:Array Bool} {a:Act} {w:World} {o:Oper} {g:FuncId} {args:Array Value} {R1:Value->World->Prop} (hi:l[i]?=some o) (hr:decide (Region.ready .any l.toArray L=[i])=true)
 (hg:Region.wanted o (yielded l.toArray a.tmps)=true) (hd:a.defers=[]) (he:(execOp a.eval o).run P w=.ok (.enter g args) w)
 (hc:Calls P g args w fun e w'=>∃ v,e=.returned v/\R1 v w') (hS:∀ v w',R1 v w'->S w')
 (h:∀ v w',S w'->R1 v w'->Nx pl P l Q R S f (L.setIfInBounds i true) (a.put o.dst v) w'):Nx (i::pl) P l Q R S (f+1) L a w :=
 nx_call hi hr hg hd he (hc.mono fun e w' ⟨v,h1,h2⟩=>.inl ⟨v,h1,hS v w' h2,h2⟩) h
theorem nx_end {l:List Oper} {L:Array Bool} {a:Act} {w:World} (hr:(Region.ready .any l.toArray L).isEmpty=true) (h:Q .normal a w):Nx [] P l Q R S 0 L a w:=Zjg hr h
end
open Go.RowKit

section
variable {d:Zae} {V:Nat->BF}
theorem topS_one {f:Nat} {top least:Int} (h:TopS d [f] top least):(top = -1/\Zaa d (f/2)=none)\/∃ b,Zaa d (f/2)=some b/\top=(b.v:Nat):=by
 rcases h with ⟨h1,_,h3⟩|⟨v,h1,_,_,⟨e,he,b,hb,hv⟩,_⟩
 ·
  exact .inl ⟨h1,h3 f (by simp)⟩
 ·
  simp only[List.mem_singleton] at he;subst he;exact .inr ⟨b,hb,by rw[h1,hv]⟩
end
open Go.RowKit
def compF (σ:Nat->BF) (F:BF):BF:=fun ρ=>F fun v=>σ v ρ
theorem compF_not (σ:Nat->BF) (F:BF):compF σ (notF F)=notF (compF σ F):=rfl
theorem compF_const {d:Zae} {V:Nat->BF} (hk:Zao d V) (σ:Nat->BF) {e:Nat} (h:e/2=0):compF σ (ef V e)=ef V e:=by
 rw[Zs4 hk h];rfl
theorem compF_ite {V:Nat->BF} (σ:Nat->BF) {f lo hi v:Nat} (h:∀ ρ,ef V f ρ=if ρ v then ef V hi ρ else ef V lo ρ):compF σ (ef V f)=Zc6 (σ v) (compF σ (ef V hi)) (compF σ (ef V lo)):=by
 funext ρ
 show ef V f (fun v=>σ v ρ)=iteB (σ v ρ) (ef V hi fun v=>σ v ρ) (ef V lo fun v=>σ v ρ)
 rw[h];rfl
theorem Step.write {K:Law} {D:Nat->Prop} {o o':Own} {w w' w'':World} {mb:Nat} {m m':ManD} {V V':Nat->BF} (h:Step K o w mb m V o' w' m' V') (hw:Wr D w' w'') (hD:∀ k,D k->w.heap.size<=k/\o' k=none):Step K o w mb m V o' w'' m' V':=by
 obtain⟨s,hm⟩:=h.is;refine⟨⟨s,hm.keep (fun g r hg=>hw.keep g (h.lt g r hg) (fun e=>?_)) (fun _ _ h=>h)⟩,h.lt.mono hw.size,⟨hw.os.trans h.chg.os,hw.tape.trans h.chg.tape,hw.output.trans h.chg.output,Nat.le_trans h.chg.size hw.size,fun k hk hr=>?_,h.chg.ext,h.chg.new⟩,h.ok,h.ext,h.hs,h.next⟩
 ·
  rw[(hD g e).2] at hg;cases hg
 ·
  refine(hw.keep k (Nat.lt_of_lt_of_le hk h.chg.size) (fun e=>?_)).trans (h.chg.block k hk hr);have:=(hD k e).1;omega
def WithOK (K:Law) (n:Nat) (σ:Nat->BF) (HP:ManD->(Nat->BF)->Prop) (Bw:World->Prop) (T:Nat->Prop) (g:Nat) (lw:Array Value):Prop :=
 ∀ (o:Own) (W:World) (xb mb:Nat) (m:ManD) (V:Nat->BF) (v:Nat),Zdz (K m.d V) o W mb m->Zaj o W->Zer o W xb mb->Zao m.d V->m.d.vars.length=n->HP m V->Bw W->(∀ q,T q->q<W.heap.size/\o q=none)->v<n ->
  Calls Tryz.prog g (#[.pointer (some ⟨xb,0,none⟩),.int .i64 v]++lw) W fun e w' =>
   (∃ (r:Nat) (ok:Bool) (o':Own) (m':ManD) (V':Nat->BF),e=.returned (.tuple #[.int .i64 r,.bool ok])/\AtC K 1 o W mb m V o' w' m' V'/\okE (Zaa m'.d) r/\(ok=true->ef V' r=σ v)/\(ok=false->σ v=varF v)) \/
   (∃ er evt ev,e=Zdq er evt ev/\Zu3 K 1 o W mb m V er evt ev w')
structure OvC where
 b6:Nat
 b5:Nat
 kb:Nat
 b3:Nat
 b4:Nat
 xb:Nat
 g:Nat
 lw:Array Value
def OvC.caps (c:OvC):Array Value:=#[.pointer (some ⟨c.b6,0,none⟩),.pointer (some ⟨c.b5,0,none⟩),.pointer (some ⟨c.b3,0,none⟩),.pointer (some ⟨c.b4,0,none⟩)]
structure OvS (K:Law) (n:Nat) (σ:Nat->BF) (HP:ManD->(Nat->BF)->Prop) (Bw:World->Prop) (T:Nat->Prop) (c:OvC) (ob:Own) (wb:World) (mb:Nat) (m0:ManD) (V0:Nat->BF) (k:Nat) (o:Own) (W:World) (m:ManD) (V:Nat->BF):Prop where
 at_:AtC K k ob wb mb m0 V0 o W m V
 vars:m.d.vars.length=n
 ctx:Zer o W c.xb mb
 hp:HP m V
 bw:Bw W
 f:W.cell? ⟨c.b6,0,none⟩=some (.func (.func 274) #[] c.caps)
 mp:W.cell? ⟨c.b5,0,none⟩=some (.map (some c.kb))
 x:W.cell? ⟨c.b3,0,none⟩=some (.pointer (some ⟨c.xb,0,none⟩))
 w:W.cell? ⟨c.b4,0,none⟩=some (.func (.func c.g) #[] c.lw)
 no:∀ q,(q=c.b6\/q=c.b5\/q=c.kb\/q=c.b3\/q=c.b4\/T q)->o q=none
 t:∀ q,T q->q<W.heap.size
 ne:c.kb≠c.b6/\c.kb≠c.b5/\c.kb≠c.b3/\c.kb≠c.b4/\c.kb≠c.xb/\¬ T c.kb
 new:wb.heap.size<=c.kb
 map:∃ l,Zcl W c.kb (Value.int .i64) l/\∀ p∈l,∃ e r:Nat,p=((e:Int),.int .i64 r)/\okE (Zaa m.d) e/\okE (Zaa m.d) r/\ef V r=compF σ (ef V e)
section
variable {K:Law} {n:Nat} {σ:Nat->BF} {HP:ManD->(Nat->BF)->Prop} {Bw:World->Prop} {T:Nat->Prop} {c:OvC} {ob o o':Own} {wb W W':World} {mb:Nat} {m0 m m':ManD} {V0 V V':Nat->BF} {k k2:Nat}
theorem OvS.step (h:OvS K n σ HP Bw T c ob wb mb m0 V0 k o W m V) (hHP:∀ {o o':Own} {w w':World} {m m':ManD} {V V':Nat->BF},Step K o w mb m V o' w' m' V'->HP m V->HP m' V') (hB:∀ W W',Bw W->(∀ q,T q->W'.heap[q]?=W.heap[q]?)->Bw W')
 (s:AtC K k2 o W mb m V o' W' m' V'):OvS K n σ HP Bw T c ob wb mb m0 V0 (k+k2) o' W' m' V':=by
 have hno:∀ q,(q=c.b6\/q=c.b5\/q=c.kb\/q=c.b3\/q=c.b4\/T q)->q<W.heap.size:=by
  obtain⟨l,hl,_⟩:=h.map;rintro q (rfl|rfl|rfl|rfl|rfl|hq)
  ·
   exact Zab h.f
  ·
   exact Zab h.mp
  ·
   exact hl.lt
  ·
   exact Zab h.x
  ·
   exact Zab h.w
  ·
   exact h.t q hq
 refine⟨h.at_.trans s,s.vars h.vars,h.ctx.chg s.st.chg,hHP s.st h.hp,hB _ _ h.bw (fun q hq=>s.st.chg.alien (h.t q hq) (h.no q (.inr (.inr (.inr (.inr (.inr hq))))))),s.st.chg.cell h.f (h.no _ (.inl rfl)),s.st.chg.cell h.mp (h.no _ (.inr (.inl rfl))),s.st.chg.cell h.x (h.no _ (.inr (.inr (.inr (.inl rfl))))),s.st.chg.cell h.w (h.no _ (.inr (.inr (.inr (.inr (.inl rfl)))))),
  fun q hq=>s.st.chg.none' (hno q hq) (h.no q hq),fun q hq=>Nat.lt_of_lt_of_le (h.t q hq) s.st.chg.size,h.ne,h.new,?_⟩
 obtain⟨l,hl,hall⟩:=h.map;refine⟨l,hl.keepB (s.st.chg.alien hl.lt (h.no _ (.inr (.inr (.inl rfl))))),fun p hp=>?_⟩;obtain⟨e,r,e1,e2,e3,e4⟩:=hall p hp;exact⟨e,r,e1,s.st.ext.ok e2,s.st.ext.ok e3,by rw[s.st.ext.ef e3,s.st.ext.ef e2];exact e4⟩
theorem OvS.below (h:OvS K n σ HP Bw T c ob wb mb m0 V0 k o W m V) (hHP:∀ {o o':Own} {w w':World} {m m':ManD} {V V':Nat->BF},Step K o w mb m V o' w' m' V'->HP m V->HP m' V') (hB:∀ W W',Bw W->(∀ q,T q->W'.heap[q]?=W.heap[q]?)->Bw W')
 (hb:Below W.heap.size W W'):OvS K n σ HP Bw T c ob wb mb m0 V0 k o W' m V:=by
 have:=h.step (k2:=0) hHP hB ((AtC.refl h.at_.st.is h.at_.st.lt h.at_.st.ok).below hb);exact this
theorem OvS.put (h:OvS K n σ HP Bw T c ob wb mb m0 V0 k o W m V) (hB:∀ W W',Bw W->(∀ q,T q->W'.heap[q]?=W.heap[q]?)->Bw W') {l:List (Int×Value)} (hl:Zcl W c.kb (Value.int .i64) l) (hall:∀ p∈l,∃ e r:Nat,p=((e:Int),.int .i64 r)/\okE (Zaa m.d) e/\okE (Zaa m.d) r/\ef V r=compF σ (ef V e))
 {e r:Nat} (he:okE (Zaa m.d) e) (hr:okE (Zaa m.d) r) (hef:ef V r=compF σ (ef V e)) (hl':Zcl W' c.kb (Value.int .i64) (putL (e:Int) (.int .i64 r) l)) (hg:W.grownBy W' (some c.kb)):OvS K n σ HP Bw T c ob wb mb m0 V0 k o W' m V:=by
 have hw:Wr (fun q=>q=c.kb) W W':=Wr.of_grown hg _ (fun q hq=>by cases hq;rfl);obtain⟨n1,n2,n3,n4,n5,n6⟩:=h.ne;have hcell:∀ b v,c.kb≠b->W.cell? ⟨b,0,none⟩=some v->W'.cell? ⟨b,0,none⟩=some v:=fun b v hne hc=>(World.cell?_of_block (w:=W) (a:=⟨b,0,none⟩) (hw.keep b (Zab hc) (fun e=>hne e.symm))).trans hc
 refine⟨⟨h.at_.st.write hw (fun q hq=>by subst hq;exact⟨h.new,h.no _ (.inr (.inr (.inl rfl)))⟩),h.at_.waits,h.at_.many⟩,h.vars,⟨hcell _ _ n5 h.ctx.cell,h.ctx.own⟩,h.hp,hB _ _ h.bw (fun q hq=>hw.keep q (h.t q hq) (fun e=>n6 (e ▸ hq))),hcell _ _ n1 h.f,hcell _ _ n2 h.mp,hcell _ _ n3 h.x,hcell _ _ n4 h.w,h.no,fun q hq=>Nat.lt_of_lt_of_le (h.t q hq) hw.size,h.ne,h.new,?_⟩;refine⟨_,hl',fun p hp=>?_⟩;have hg:=Zc5 hl'.nodup (k:=p.1) (v:=p.2) hp;rw[Ztb hl.nodup] at hg
 by_cases ek:p.1=(e:Int)
 ·
  rw[if_pos ek] at hg;exact⟨e,r,Prod.ext ek (Option.some.inj hg).symm,he,hr,hef⟩
 ·
  rw[if_neg ek] at hg;obtain⟨e',r',q1,q2⟩:=hall _ (Zfc hg);exact⟨e',r',q1,q2⟩
end
open Go.RowKit
theorem enters_over11 (args:Array Value) (w:World):(callFunc 274 args).run Tryz.prog w=.ok (.enter 274 args) w:=enters_of Tryz.func274 (by kernel_rfl) rfl args w
theorem kEd:Zmn Tryz.prog 159 (Value.int .i64):=Ztm Tryz.underlying159
def OvR (K:Law) (n:Nat) (σ:Nat->BF) (HP:ManD->(Nat->BF)->Prop) (Bw:World->Prop) (T:Nat->Prop) (c:OvC) (ob:Own) (wb:World) (mb:Nat) (m0:ManD) (V0:Nat->BF) (kt k:Nat) (m:ManD) (V:Nat->BF) (e:Nat) (x:Ending) (w':World):Prop :=
 (∃ (r:Nat) (o':Own) (m':ManD) (V':Nat->BF),x=.returned (.int .i64 r)/\OvS K n σ HP Bw T c ob wb mb m0 V0 k o' w' m' V'/\Ext m.d V m'.d V'/\okE (Zaa m'.d) r/\ef V' r=compF σ (ef V e))\/(∃ er evt ev,x=Zdq er evt ev/\Zu3 K kt ob wb mb m0 V0 er evt ev w')
def AtOv (K:Law) (n:Nat) (σ:Nat->BF) (HP:ManD->(Nat->BF)->Prop) (Bw:World->Prop) (T:Nat->Prop) (c:OvC) (ob:Own) (wb:World) (mb:Nat) (m0:ManD) (V0:Nat->BF) (kt J:Nat) (ev:Bool):Prop :=
 ∀ (k:Nat) (o:Own) (W:World) (m:ManD) (V:Nat->BF) (e:Nat),OvS K n σ HP Bw T c ob wb mb m0 V0 k o W m V->okE (Zaa m.d) e->(ev=true->eneg e=false)->n<=lvE n (levN m.d) (Zaa m.d) e+J->k+(2^J-1)*(2^n+1)<=kt ->
  Calls Tryz.prog 274 (#[.int .i64 e]++c.caps) W (OvR K n σ HP Bw T c ob wb mb m0 V0 kt (k+(2^J-1)*(2^n+1)) m V e)
section
variable {K:Law} {n:Nat} {σ:Nat->BF} {HP:ManD->(Nat->BF)->Prop} {Bw:World->Prop} {T:Nat->Prop} {c:OvC} {ob o o':Own} {wb W W':World} {mb:Nat} {m0 m m':ManD} {V0 V V':Nat->BF} {k k2 kt J:Nat}
theorem OvS.mono (h:OvS K n σ HP Bw T c ob wb mb m0 V0 k o W m V) (hk:k<=k2):OvS K n σ HP Bw T c ob wb mb m0 V0 k2 o W m V:={ h with at_:=h.at_.mono hk }
theorem ov_cost (J n:Nat):(2^J-1)*(2^n+1)+(2^J-1)*(2^n+1)+(1+1+(2^n-1))=(2^(J+1)-1)*(2^n+1):=by
 have h1:0<2^J:=Nat.pow_pos (by omega);have h2:0<2^n:=Nat.pow_pos (by omega);have h3:2^(J+1)-1=(2^J-1)+(2^J-1)+1:=by rw[Nat.pow_succ];omega
 rw[h3,Nat.add_mul,Nat.add_mul,Nat.one_mul];omega
theorem over_even (hK:Zbu K) (hHP:∀ {o o':Own} {w w':World} {m m':ManD} {V V':Nat->BF},Step K o w mb m V o' w' m' V'->HP m V->HP m' V') (hB:∀ W W',Bw W->(∀ q,T q->W'.heap[q]?=W.heap[q]?)->Bw W') (hw:WithOK K n σ HP Bw T c.g c.lw) (eg:∀ args w,(callFunc c.g args).run Tryz.prog w=.ok (.enter c.g args) w)
 (IH:AtOv K n σ HP Bw T c ob wb mb m0 V0 kt J false):AtOv K n σ HP Bw T c ob wb mb m0 V0 kt (J+1) true:=by
 intro k o W m V e hs he hev hlev hkt;have hev:=hev rfl;obtain⟨b6,b5,kb,b3,b4,xb,g,lw⟩:=c;have hk:=hs.at_.st.ok;obtain⟨N1,hN1⟩:∃ N1,N1=(2^J-1)*(2^n+1):=⟨_,rfl⟩;have hcost:=ov_cost J n;rw[<- hN1] at hcost;obtain⟨P,hP⟩:∃ P:Ending->World->Prop,P=OvR K n σ HP Bw T ⟨b6,b5,kb,b3,b4,xb,g,lw⟩ ob wb mb m0 V0 kt (k+(2^(J+1)-1)*(2^n+1)) m V e:=⟨_,rfl⟩;have he_lt:=Zvd hs.at_.st.is he;have HCON:=Hd (Zsx e W he_lt);have HNEG:=Hd (Zjq e W he_lt);rw[hev] at HNEG
 by_cases h0:e/2=0
 ·
  have HF:Hid (P (.returned (.int .i64 (e:Nat))) W):=Hd (by
   rw[hP];exact .inl ⟨e,o,m,V,rfl,hs.mono (by omega),Ext.refl _ _,he,by rw[compF_const hk σ h0]⟩)
  rw[decide_eq_true (show enode e=0 from h0)] at HCON;unfold OvC.caps;rw[<- hP];clear hP hs hk hK hHP hB hw IH HNEG hev
  show Calls _ _ #[_,_,_,_,_] _ _
  go_enter Tryz.func274,Tryz.ntmps274
  go_wp2_with fail;refine HCON.out.mono ?_;rintro y w' ⟨rfl,rfl⟩;go_wp2_with fail;exact HF.out
 rw[decide_eq_false (show ¬ enode e=0 from h0)] at HCON;obtain⟨b,hb⟩:∃ b,Zaa m.d (e/2)=some b:=by
  rcases he with h|h
  ·
   exact absurd h h0
  ·
   exact h
 have hvn:b.v<n:=by rw[<- hs.vars];exact hk.dag.var _ _ hb
 have hlv:lvE n (levN m.d) (Zaa m.d) e=levN m.d b.v:=by unfold lvE;rw[hb]
 obtain⟨q1,q2,q3,q4,q5⟩:=Ze7 (V:=V) hk he (by rw[hs.vars];exact hvn) (by rw[hs.vars,hlv];exact Nat.le_refl _);rw[hs.vars] at q3 q4;obtain⟨lo,hlo⟩:∃ lo,lo=(cofs m.d e b.v).1:=⟨_,rfl⟩;obtain⟨hi,hhi⟩:∃ hi,hi=(cofs m.d e b.v).2:=⟨_,rfl⟩;rw[<- hlo] at q1 q3 q5;rw[<- hhi] at q2 q4 q5;obtain⟨v,hv⟩:∃ v,v=b.v:=⟨_,rfl⟩;rw[<- hv] at q3 q4 q5 hvn hlv hlo hhi;have HCO:=Hd (compF_ite σ q5);obtain⟨l,hl,hall⟩:=hs.map;have HALL:=Hd hall;have HHP:Hid (∀ {o o':Own} {w w':World} {m m':ManD} {V V':Nat->BF},Step K o w mb m V o' w' m' V'->HP m V->HP m' V'):=Hd hHP;have HBB:=Hd hB;have hlk:=hl.lookup kEd Tryz.underlying312 Zqu (e:Int) true;have cm:=hs.mp;have cx:=hs.x;have cf:=hs.f;unfold OvC.caps at cf ⊢
 show Calls _ _ #[_,_,_,_,_] _ _
 rw[<- hP];have HP0:=Hd hP;have HS:=Hd hs;have HIH:=Hd IH;cases hg:getL l (e:Int) with
 | some u =>
   obtain⟨e',r,ee,h1,h2,h3⟩:=hall _ (Zfc hg);simp only[Prod.mk.injEq] at ee;obtain⟨ee,rfl⟩:=ee;obtain rfl:e=e':=by omega
   rw[hg] at hlk;simp only[if_true,Option.getD_some,Option.isSome_some] at hlk
   have HF:Hid (P (.returned (.int .i64 (r:Nat))) W):=Hd (by
    rw[HP0.out];exact .inl ⟨r,o,m,V,rfl,HS.out.mono (by omega),Ext.refl _ _,h2,h3⟩)
   clear hP hs hk hK hHP hB hw IH HIH hall hl h1 h2 h3 hg hev hcost hN1 hkt hlev
   go_enter Tryz.func274,Tryz.ntmps274
   go_wp2_with fail;refine HCON.out.mono ?_;rintro y w' ⟨rfl,rfl⟩;go_wp2_with fail;refine HNEG.out.mono ?_;rintro y w' ⟨rfl,rfl⟩;go_wp2_with fail;exact HF.out
 | none =>
   rw[hg] at hlk;simp only[if_true,Option.getD_none,Option.isSome_none] at hlk;obtain⟨w1,hw1⟩:∃ w1,w1=W.alloc (.cells #[.int .i64 (e:Nat)] 159):=⟨_,rfl⟩;have HW1:Hid (_=w1):=Hd hw1.symm;have hb1:Below W.heap.size W w1:=by rw[hw1];exact Zaf _ _
   have hblk:w1.heap[W.heap.size]?=some (.cells #[.int .i64 (e:Nat)] 159 (0,0)):=by rw[hw1];exact heap_alloc_new _ _
   have HS1:=Hd (hs.below hHP hB hb1)
   have HTOP:Hid (Calls Tryz.prog 207 #[.pointer (some ⟨xb,0,none⟩),.slice (some ⟨W.heap.size,0,none⟩) 1 1] w1 fun x w'=>x=.returned (.int .i64 v)/\Below w1.heap.size w1 w'):=Hd ((Zq2 HS1.out.at_.st.is HS1.out.at_.st.lt HS1.out.ctx HS1.out.at_.st.ok [e] (by simpa using he) (some ⟨W.heap.size,0,none⟩) 1 ⟨by simp,fun q hq=>⟨W.heap.size,0,rfl,by
    obtain rfl:q=0:=by simp at hq;omega
    exact cell1 hblk⟩⟩).mono (by
    rintro x w' ⟨top,least,rfl,ht,hb2⟩;rcases topS_one ht with ⟨_,h⟩|⟨b',h,rfl⟩
    ·
     rw[hb] at h;cases h
    ·
     rw[hb] at h;cases h
     exact⟨by rw[hv],hb2⟩))
   have HLO:=Hd hlo;have HHI:=Hd hhi;have HKT:Hid (k+N1+N1+(1+1+(2^n-1))<=kt/\k+N1+N1+(1+1+(2^n-1))=k+(2^(J+1)-1)*(2^n+1)):=Hd ⟨by omega,by omega⟩
   have HREC:Hid (∀ (k':Nat) (o1:Own) (w':World) (m1:ManD) (V1:Nat->BF) (f:Nat),OvS K n σ HP Bw T ⟨b6,b5,kb,b3,b4,xb,g,lw⟩ ob wb mb m0 V0 k' o1 w' m1 V1->Ext m.d V m1.d V1->okE (Zaa m.d) f->levN m.d v<lvE n (levN m.d) (Zaa m.d) f->k'+N1<=k+N1+N1->Calls Tryz.prog 274 #[.int .i64 f,.pointer (some ⟨b6,0,none⟩),.pointer (some ⟨b5,0,none⟩),.pointer (some ⟨b3,0,none⟩),.pointer (some ⟨b4,0,none⟩)] w' fun e w' =>
    (∃ u,e=.returned u/\w'.cell? ⟨b6,0,none⟩=some (.func (.func 274) #[] #[.pointer (some ⟨b6,0,none⟩),.pointer (some ⟨b5,0,none⟩),.pointer (some ⟨b3,0,none⟩),.pointer (some ⟨b4,0,none⟩)])/\∃ r1:Nat,u=.int .i64 r1/\∃ (o2:Own) (m2:ManD) (V2:Nat->BF),OvS K n σ HP Bw T ⟨b6,b5,kb,b3,b4,xb,g,lw⟩ ob wb mb m0 V0 (k'+N1) o2 w' m2 V2/\Ext m.d V m2.d V2/\Ext m1.d V1 m2.d V2/\okE (Zaa m2.d) r1/\ef V2 r1=compF σ (ef V f))\/(∃ ch,e=.panicked ch/\P (.panicked ch) w')):=by
    refine Hd fun k' o1 w' m1 V1 f h1 hx hf hl hkk=>?_
    have hle:lvE n (levN m1.d) (Zaa m1.d) f=lvE n (levN m.d) (Zaa m.d) f:=by
     exact hx.lvE hf hk.dag.none0 h1.at_.st.ok.dag.none0
    have:=HIH.out k' o1 w' m1 V1 f h1 (hx.ok hf) (fun h=>by cases h) (by rw[hle];omega) (by rw[<- hN1];have:=HKT.out;omega);rw[<- hN1] at this;refine this.mono ?_;rintro x w2 (⟨r,o2,m2,V2,rfl,p1,p2,p3,p4⟩|⟨er,evt,ev,rfl,hst⟩)
    ·
     exact .inl ⟨_,rfl,p1.f,r,rfl,o2,m2,V2,p1,hx.trans p2,p2,p3,by rw[p4,hx.ef hf]⟩
    ·
     refine .inr ⟨_,rfl,?_⟩;rw[HP0.out];exact .inr ⟨er,evt,ev,rfl,hst⟩
   have HPAN:Hid (∀ er evt ev w',Zu3 K kt ob wb mb m0 V0 er evt ev w'->P (Zdq er evt ev) w'):=Hd fun er evt ev w' h=>by rw[HP0.out];exact .inr ⟨er,evt,ev,rfl,h⟩
   have HWITH:=Hd hw;have HKK:=Hd hK;have HQ1:=Hd q1;have HQ2:=Hd q2;have HQ3:=Hd q3;have HQ4:=Hd q4;have HE:=Hd he;have HVN:=Hd hvn;clear hP hs hk hK hHP hB hw IH HIH hall hl hg hev hcost hkt hlev hw1 hblk hb1 HALL q1 q2 q3 q4 q5 hb hlv hlo hhi hv he hvn hN1 h0 he_lt
   go_enter Tryz.func274,Tryz.ntmps274
   go_wp2_with fail;refine HCON.out.mono ?_;rintro y w' ⟨rfl,rfl⟩;go_wp2_with fail;refine HNEG.out.mono ?_;rintro y w' ⟨rfl,rfl⟩;go_wp2_with fail;rw[HW1.out];refine HTOP.out.mono ?_;rintro y w2 ⟨rfl,hb2⟩;have HS2:=Hd (HS1.out.below HHP.out HBB.out hb2);have cx2:=HS2.out.x
   have HSPL:Hid (Calls Tryz.prog 208 #[.pointer (some ⟨xb,0,none⟩),.int .i64 e,.int .i64 v] w2 fun x w'=>x=.returned (.tuple #[.int .i64 lo,.int .i64 hi])/\Below w2.heap.size w2 w'):=Hd ((Zm2 HS2.out.at_.st.is HS2.out.at_.st.lt HS2.out.ctx HS2.out.at_.st.ok e HE.out v).mono (by
    rintro x w' ⟨rfl,h⟩;exact⟨by rw[HLO.out,HHI.out],h⟩))
   clear hb2 hlk cm cx cf HCON HNEG HTOP HW1 HS1;go_wp2_with fail;refine HSPL.out.mono ?_;rintro y w3 ⟨rfl,hb3⟩;have HS3:=Hd (HS2.out.below HHP.out HBB.out (hb3.trans ((Zah w3 1).mono hb3.size)));have cf3:w3.drew.cell? ⟨b6,0,none⟩=some (.func (.func 274) #[] #[.pointer (some ⟨b6,0,none⟩),.pointer (some ⟨b5,0,none⟩),.pointer (some ⟨b3,0,none⟩),.pointer (some ⟨b4,0,none⟩)]):=HS3.out.f;have HL:=Hd (HREC.out k o w3.drew m V lo HS3.out (Ext.refl _ _) HQ1.out HQ3.out (by omega));have eg1:=enters_over11;clear hb3 HSPL HS2 cx2;go_upto_region 10 with fail;refine nx_start [0,1,3,4,2,5,6,7] (fun W=>W.cell? ⟨b6,0,none⟩=some (.func (.func 274) #[] #[.pointer (some ⟨b6,0,none⟩),.pointer (some ⟨b5,0,none⟩),.pointer (some ⟨b3,0,none⟩),.pointer (some ⟨b4,0,none⟩)])) (fun ch w'=>P (.panicked ch) w') (fun c a w hd h=>⟨hd,h⟩) (by kernel_rfl) cf3 ?_
   iterate 4
    refine nx_read rfl rfl (by kernel_rfl) ?_;apply Exists.intro;refine⟨fun w' hw=>?_,?_⟩
    ·
     have q1:w'.cell? ⟨b6,0,none⟩=some (.func (.func 274) #[] #[.pointer (some ⟨b6,0,none⟩),.pointer (some ⟨b5,0,none⟩),.pointer (some ⟨b3,0,none⟩),.pointer (some ⟨b4,0,none⟩)]):=hw;go_simp;rfl
    simp only[Zai]
   refine nx_call rfl (by kernel_rfl) rfl rfl (by go_simp) HL.out ?_;rintro u w4 hS4 ⟨r1,rfl,o4,m4,V4,s4,x4,x4',k4,f4⟩;have HS4:=Hd s4;have HX4:=Hd x4;have HK4:=Hd k4;have HF4:=Hd f4;have HH:=Hd (HREC.out (k+N1) o4 w4 m4 V4 hi s4 x4 HQ2.out HQ4.out (by omega));clear s4 x4 x4' k4 f4 HL hS4;simp only[Zai];refine nx_call rfl (by kernel_rfl) rfl rfl (by go_simp) HH.out ?_;rintro u w5 hS5 ⟨r2,rfl,o5,m5,V5,s5,x5,x5',k5,f5⟩;have HS5:=Hd s5;have HX5:=Hd x5;have HK5:=Hd k5;have HF5:=Hd f5;have HK15:=Hd (x5'.ok HK4.out);have HF15:Hid (ef V5 r1=compF σ (ef V lo)):=Hd ((x5'.ef HK4.out).trans HF4.out)
   have HW5:Hid (Calls Tryz.prog g (#[.pointer (some ⟨xb,0,none⟩),.int .i64 v]++lw) w5 fun e w'=>(∃ (r:Nat) (ok:Bool) (o':Own) (m':ManD) (V':Nat->BF),e=.returned (.tuple #[.int .i64 r,.bool ok])/\AtC K 1 o5 w5 mb m5 V5 o' w' m' V'/\okE (Zaa m'.d) r/\(ok=true->ef V' r=σ v)/\(ok=false->σ v=varF v))\/(∃ er evt ev,e=Zdq er evt ev/\P (Zdq er evt ev) w')):=Hd ((HWITH.out o5 w5 xb mb m5 V5 v s5.at_.st.is s5.at_.st.lt s5.ctx s5.at_.st.ok s5.vars s5.hp s5.bw (fun q hq=>⟨s5.t q hq,s5.no q (.inr (.inr (.inr (.inr (.inr hq)))))⟩) HVN.out).mono (by
    rintro e w' (h|⟨er,evt,ev,rfl,hst⟩)
    ·
     exact .inl h
    ·
     exact .inr ⟨er,evt,ev,rfl,HPAN.out _ _ _ _ (hst.after s5.at_ (by have:=HKT.out;omega))⟩))
   have cw5:=s5.w;have cx5:=s5.x;clear s5 x5 x5' k5 f5 HH hS5 HS4 HK4 HF4 HX4 cf3;simp only[Zai]
   iterate 2
    refine nx_read rfl rfl (by kernel_rfl) ?_;apply Exists.intro;refine⟨fun w' hw=>?_,?_⟩
    ·
     go_simp;rfl
    simp only[Zai]
   refine nx_end (by kernel_rfl) ?_;go_wp2_with fail;refine HW5.out.mono ?_;rintro y w6 (⟨r3,ok,o6,m6,V6,rfl,a6,k6,t6,u6⟩|⟨er,evt,ev,rfl,hp⟩)
   ·
    have HS6:Hid (OvS K n σ HP Bw T ⟨b6,b5,kb,b3,b4,xb,g,lw⟩ ob wb mb m0 V0 (k+N1+N1+1) o6 w6 m6 V6):=Hd (HS5.out.step HHP.out HBB.out a6);have HX6:=Hd (HX5.out.trans a6.st.ext);have HK16:=Hd (a6.st.ext.ok HK15.out);have HK26:=Hd (a6.st.ext.ok HK5.out);have HF16:Hid (ef V6 r1=compF σ (ef V lo)):=Hd ((a6.st.ext.ef HK15.out).trans HF15.out);have HF26:Hid (ef V6 r2=compF σ (ef V hi)):=Hd ((a6.st.ext.ef HK5.out).trans HF5.out);have HK6:=Hd k6;have HT6:=Hd t6;have HU6:=Hd u6
    have HEND:Hid (∀ (o7:Own) (w7:World) (m7:ManD) (V7:Nat->BF) (r4:Nat),OvS K n σ HP Bw T ⟨b6,b5,kb,b3,b4,xb,g,lw⟩ ob wb mb m0 V0 (k+N1+N1+(1+1)) o7 w7 m7 V7->Ext m6.d V6 m7.d V7->okE (Zaa m7.d) r4->ef V7 r4=σ v->Calls Tryz.prog 128 #[.pointer (some ⟨xb,0,none⟩),.int .i64 r4,.int .i64 r2,.int .i64 r1] w7 fun e' w' =>
     (∃ (r:Nat) (l8:List (Int×Value)),e'=.returned (.int .i64 r)/\w'.cell? ⟨b5,0,none⟩=some (.map (some kb))/\Zcl w' kb (Value.int .i64) l8/\(∀ w9,Zcl w9 kb (Value.int .i64) (putL (e:Int) (.int .i64 r) l8)->w'.grownBy w9 (some kb)->P (.returned (.int .i64 r)) w9))\/(∃ er evt ev,e'=Zdq er evt ev/\P (Zdq er evt ev) w')):=by
     refine Hd fun o7 w7 m7 V7 r4 s7 x7 k7 f7=>?_
     refine(Zps HKK.out s7.at_.st.is s7.at_.st.lt s7.ctx s7.at_.st.ok s7.vars r4 r2 r1 k7 (x7.ok HK26.out) (x7.ok HK16.out)).mono ?_;rintro e' w' (⟨r,o8,m8,V8,rfl,p1,p2,p3⟩|⟨er,evt,ev,rfl,hst⟩)
     ·
      have s8:=s7.step HHP.out HBB.out p1;obtain⟨l8,hl8,hall8⟩:=s8.map;refine .inl ⟨r,l8,rfl,s8.mp,hl8,fun w9 hm9 hg9=>?_⟩;have x8:=(HX6.out.trans x7).trans p1.st.ext;have hef:ef V8 r=compF σ (ef V8 e):=by
       rw[x8.ef HE.out,HCO.out,p3,f7,x7.ef HK26.out,x7.ef HK16.out,HF16.out,HF26.out]
      rw[HP0.out];refine .inl ⟨r,o8,m8,V8,rfl,?_,x8,p2,by rw[hef,x8.ef HE.out]⟩;rw[<- HKT.out.2];have:=s8.put HBB.out hl8 hall8 (x8.ok HE.out) p2 hef hm9 hg9;rw[Nat.add_assoc (k+N1+N1)] at this;exact this
     ·
      exact .inr ⟨er,evt,ev,rfl,HPAN.out _ _ _ _ (hst.after s7.at_ (by have:=HKT.out;omega))⟩
    have cx6:=HS6.out.x;clear a6 k6 t6 u6 HW5 cw5 cx5 HS5 HX5 HK15 HK5 HF15 HF5 HREC HWITH;cases ok with
    | true =>
      have HI:=Hd (HEND.out o6 w6 m6 V6 r3 (HS6.out.mono (by omega)) (Ext.refl _ _) HK6.out (HT6.out rfl));clear HEND HKK;go_wp2_with fail;refine HI.out.mono ?_;rintro y w8 (⟨r,l8,rfl,cm8,hl8,hp⟩|⟨er,evt,ev,rfl,hp⟩)
      ·
       have HL8:=Hd hl8;have HP8:=Hd hp;clear hl8 hp HI cx6;go_wp2_with (refine Zgu (l:=l8) rfl _ _ _ rfl kEd Tryz.underlying312 (e:Int) (.int .i64 (r:Nat)) rfl rfl rfl HL8.out ?_;intro w9 hm9 hg9);have HF:=Hd (HP8.out w9 hm9 hg9);clear hm9 hg9 HP8 HL8 cm8;go_wp2_with fail;exact HF.out
      ·
       have HF:=Hd hp;clear hp HI;unfold Zdq;go_wp2_with fail;exact⟨rfl,HF.out⟩
    | false =>
      have HV0:=ctxVar_c HKK.out HS6.out.at_.st.is HS6.out.at_.st.lt HS6.out.ctx HS6.out.at_.st.ok v (by rw[HS6.out.vars];exact HVN.out)
      have HV:Hid (Calls Tryz.prog 190 #[.pointer (some ⟨xb,0,none⟩),.int .i64 v,.int .i64 1,.int .i64 0] w6 fun e' w7=>(∃ (r4:Nat) (o7:Own) (m7:ManD) (V7:Nat->BF),e'=.returned (.int .i64 r4)/\OvS K n σ HP Bw T ⟨b6,b5,kb,b3,b4,xb,g,lw⟩ ob wb mb m0 V0 (k+N1+N1+(1+1)) o7 w7 m7 V7/\Ext m6.d V6 m7.d V7/\okE (Zaa m7.d) r4/\ef V7 r4=σ v)\/(∃ er evt ev,e'=Zdq er evt ev/\P (Zdq er evt ev) w7)):=Hd (HV0.mono (by
       rintro e' w7 (⟨r4,o7,m7,V7,rfl,p1,p2,p3⟩|⟨er,evt,ev,rfl,hst⟩)
       ·
        refine .inl ⟨r4,o7,m7,V7,rfl,?_,p1.st.ext,p2,by rw[HU6.out rfl];exact p3⟩;have:=HS6.out.step HHP.out HBB.out p1;rw[Nat.add_assoc (k+N1+N1)] at this;exact this
       ·
        exact .inr ⟨er,evt,ev,rfl,HPAN.out _ _ _ _ (hst.after HS6.out.at_ (by have:=HKT.out;omega))⟩))
      clear HV0 HKK;go_wp2_with fail;refine HV.out.mono ?_;rintro y w7 (⟨r4,o7,m7,V7,rfl,s7,x7,k7,f7⟩|⟨er,evt,ev,rfl,hp⟩)
      ·
       have HI:=Hd (HEND.out o7 w7 m7 V7 r4 s7 x7 k7 f7);have cx7:=s7.x;clear s7 x7 k7 f7 HEND HV cx6;go_wp2_with fail;refine HI.out.mono ?_;rintro y w8 (⟨r,l8,rfl,cm8,hl8,hp⟩|⟨er,evt,ev,rfl,hp⟩)
       ·
        have HL8:=Hd hl8;have HP8:=Hd hp;clear hl8 hp HI cx7;go_wp2_with (refine Zgu (l:=l8) rfl _ _ _ rfl kEd Tryz.underlying312 (e:Int) (.int .i64 (r:Nat)) rfl rfl rfl HL8.out ?_;intro w9 hm9 hg9);have HF:=Hd (HP8.out w9 hm9 hg9);clear hm9 hg9 HP8 HL8 cm8;go_wp2_with fail;exact HF.out
       ·
        have HF:=Hd hp;clear hp HI;unfold Zdq;go_wp2_with fail;exact⟨rfl,HF.out⟩
      ·
       have HF:=Hd hp;clear hp HV;unfold Zdq;go_wp2_with fail;exact⟨rfl,HF.out⟩
   ·
    have HF:=Hd hp;clear hp HW5;unfold Zdq;go_wp2_with fail;exact⟨rfl,HF.out⟩
end
open Go.RowKit
theorem enters_over1 (args:Array Value) (w:World):(callFunc 273 args).run Tryz.prog w=.ok (.enter 273 args) w:=enters_of Tryz.func273 (by kernel_rfl) rfl args w
section
variable {K:Law} {n:Nat} {σ:Nat->BF} {HP:ManD->(Nat->BF)->Prop} {Bw:World->Prop} {T:Nat->Prop} {c:OvC} {ob o o':Own} {wb w W W':World} {mb:Nat} {m0 m m':ManD} {V0 V V':Nat->BF} {k k2 kt J:Nat}
theorem eneg_enot (e:Nat) (h:eneg e=true):eneg (enot e)=false:=by
 unfold eneg at h ⊢;rw[beq_iff_eq] at h;rw[Zlk,h];rfl
theorem over_const (hs:OvS K n σ HP Bw T c ob wb mb m0 V0 k o W m V) {e:Nat} (he:okE (Zaa m.d) e) (h0:e/2=0) (hk2:k<=k2):Calls Tryz.prog 274 (#[.int .i64 e]++c.caps) W (OvR K n σ HP Bw T c ob wb mb m0 V0 kt k2 m V e):=by
 obtain⟨b6,b5,kb,b3,b4,xb,g,lw⟩:=c;have hk:=hs.at_.st.ok;have HCON:=Hd (Zsx e W (Zvd hs.at_.st.is he));rw[decide_eq_true (show enode e=0 from h0)] at HCON;obtain⟨P,hP⟩:∃ P:Ending->World->Prop,P=OvR K n σ HP Bw T ⟨b6,b5,kb,b3,b4,xb,g,lw⟩ ob wb mb m0 V0 kt k2 m V e:=⟨_,rfl⟩
 have HF:Hid (P (.returned (.int .i64 (e:Nat))) W):=Hd (by
  rw[hP];exact .inl ⟨e,o,m,V,rfl,hs.mono hk2,Ext.refl _ _,he,by rw[compF_const hk σ h0]⟩)
 unfold OvC.caps;rw[<- hP];clear hP hs hk
 show Calls _ _ #[_,_,_,_,_] _ _
 go_enter Tryz.func274,Tryz.ntmps274
 go_wp2_with fail;refine HCON.out.mono ?_;rintro y w' ⟨rfl,rfl⟩;go_wp2_with fail;exact HF.out
theorem over_neg (IH:AtOv K n σ HP Bw T c ob wb mb m0 V0 kt J true) (hHP:∀ {o o':Own} {w w':World} {m m':ManD} {V V':Nat->BF},Step K o w mb m V o' w' m' V'->HP m V->HP m' V') (hB:∀ W W',Bw W->(∀ q,T q->W'.heap[q]?=W.heap[q]?)->Bw W'):AtOv K n σ HP Bw T c ob wb mb m0 V0 kt J false:=by
 intro k o W m V e hs he _ hlev hkt
 by_cases h0:e/2=0
 ·
  exact over_const hs he h0 (by omega)
 cases hneg:eneg e with
 | false=>exact IH k o W m V e hs he (fun _=>hneg) hlev hkt
 | true =>
   obtain⟨b6,b5,kb,b3,b4,xb,g,lw⟩:=c;have he_lt:=Zvd hs.at_.st.is he;have HCON:=Hd (Zsx e W he_lt);have HNEG:=Hd (Zjq e W he_lt);rw[hneg] at HNEG;rw[decide_eq_false (show ¬ enode e=0 from h0)] at HCON;have hsd:=hs.below hHP hB (Zah W 1);have hen:okE (Zaa m.d) (enot e):=Zp7 he;have hhalf:enot e/2=e/2:=Zfu e;obtain⟨N1,hN1⟩:∃ N1,N1=(2^J-1)*(2^n+1):=⟨_,rfl⟩;have hrec:=IH k o W.drew m V (enot e) hsd hen (fun _=>eneg_enot e hneg) (by unfold lvE at hlev ⊢;rw[hhalf];exact hlev) hkt;rw[<- hN1] at hrec;obtain⟨P,hP⟩:∃ P:Ending->World->Prop,P=OvR K n σ HP Bw T ⟨b6,b5,kb,b3,b4,xb,g,lw⟩ ob wb mb m0 V0 kt (k+(2^J-1)*(2^n+1)) m V e:=⟨_,rfl⟩;have HN1:=Hd (Zly e W.drew he_lt)
   have HREC:Hid (Calls Tryz.prog 274 #[.int .i64 (enot e:Nat),.pointer (some ⟨b6,0,none⟩),.pointer (some ⟨b5,0,none⟩),.pointer (some ⟨b3,0,none⟩),.pointer (some ⟨b4,0,none⟩)] W.drew fun x w'=>(∃ u,x=.returned u/\w'.cell? ⟨b6,0,none⟩=some (.func (.func 274) #[] #[.pointer (some ⟨b6,0,none⟩),.pointer (some ⟨b5,0,none⟩),.pointer (some ⟨b3,0,none⟩),.pointer (some ⟨b4,0,none⟩)])/\∃ r:Nat,u=.int .i64 r/\(Calls Tryz.prog 112 #[.int .i64 r] w' fun x w2=>x=.returned (.int .i64 (enot r:Nat))/\w'=w2)/\P (.returned (.int .i64 (enot r:Nat))) w')\/(∃ ch,x=.panicked ch/\P (.panicked ch) w')):=Hd (hrec.mono (by
    rintro x w' (⟨r,o2,m2,V2,rfl,p1,p2,p3,p4⟩|⟨er,evt,ev,rfl,hst⟩)
    ·
     refine .inl ⟨_,rfl,p1.f,r,rfl,Zly r w' (Zvd p1.at_.st.is p3),?_⟩;rw[hP];refine .inl ⟨enot r,o2,m2,V2,rfl,by rw[<- hN1];exact p1,p2,Zp7 p3,?_⟩;rw[Zx3,p4,Zx3,compF_not];funext ρ
     show (!(!compF σ (ef V e) ρ))=_
     simp
    ·
     refine .inr ⟨_,rfl,?_⟩;rw[hP];exact .inr ⟨er,evt,ev,rfl,hst⟩))
   have cf:=hs.f;unfold OvC.caps at cf ⊢;rw[<- hP];have eg1:=enters_over11;clear hP hs hrec hsd IH hHP hB hneg hN1 hlev hkt
   show Calls _ _ #[_,_,_,_,_] _ _
   go_enter Tryz.func274,Tryz.ntmps274
   go_wp2_with fail;refine HCON.out.mono ?_;rintro y w' ⟨rfl,rfl⟩;go_wp2_with fail;refine HNEG.out.mono ?_;rintro y w' ⟨rfl,rfl⟩;go_upto_region 4 with fail;have cfd:W.drew.cell? ⟨b6,0,none⟩=some (.func (.func 274) #[] #[.pointer (some ⟨b6,0,none⟩),.pointer (some ⟨b5,0,none⟩),.pointer (some ⟨b3,0,none⟩),.pointer (some ⟨b4,0,none⟩)]):=cf;refine nx_start [0,1,2,3,4,5] (fun W'=>W'.cell? ⟨b6,0,none⟩=some (.func (.func 274) #[] #[.pointer (some ⟨b6,0,none⟩),.pointer (some ⟨b5,0,none⟩),.pointer (some ⟨b3,0,none⟩),.pointer (some ⟨b4,0,none⟩)])) (fun ch w'=>P (.panicked ch) w') (fun c a w hd h=>⟨hd,h⟩) (by kernel_rfl) cfd ?_
   iterate 2
    refine nx_read rfl rfl (by kernel_rfl) ?_;apply Exists.intro;refine⟨fun w' hw=>?_,?_⟩
    ·
     have q1:w'.cell? ⟨b6,0,none⟩=some (.func (.func 274) #[] #[.pointer (some ⟨b6,0,none⟩),.pointer (some ⟨b5,0,none⟩),.pointer (some ⟨b3,0,none⟩),.pointer (some ⟨b4,0,none⟩)]):=hw;go_simp;rfl
    simp only[Zai]
   refine nx_callR (R1:=fun u w'=>u=.int .i64 (enot e:Nat)/\W.drew=w') rfl (by kernel_rfl) rfl rfl (by go_simp) (HN1.out.mono fun x w' h=>⟨_,h.1,rfl,h.2⟩) (by rintro u w' ⟨_,rfl⟩;exact cfd) ?_;rintro u w'-⟨rfl,rfl⟩;simp only[Zai];refine nx_call rfl (by kernel_rfl) rfl rfl (by go_simp) HREC.out ?_;rintro u w2 hS ⟨r,rfl,hn,hp⟩;have HF:=Hd hp;have HNR:=Hd hn;have HS:=Hd hS;clear hn hp hS HREC cfd cf;simp only[Zai];refine nx_callR (R1:=fun u w'=>u=.int .i64 (enot r:Nat)/\w2=w') rfl (by kernel_rfl) rfl rfl (by go_simp) (HNR.out.mono fun x w' h=>⟨_,h.1,rfl,h.2⟩) (by rintro u w' ⟨_,rfl⟩;exact HS.out) ?_;rintro u w'-⟨rfl,rfl⟩;simp only[Zai];refine nx_read rfl rfl (by kernel_rfl) ?_;apply Exists.intro;refine⟨fun w' hw=>?_,?_⟩
   ·
    go_simp;rfl
   simp only[Zai];refine nx_end (by kernel_rfl) ?_;go_wp2_with fail;exact HF.out
theorem over_at (hK:Zbu K) (hHP:∀ {o o':Own} {w w':World} {m m':ManD} {V V':Nat->BF},Step K o w mb m V o' w' m' V'->HP m V->HP m' V') (hB:∀ W W',Bw W->(∀ q,T q->W'.heap[q]?=W.heap[q]?)->Bw W') (hw:WithOK K n σ HP Bw T c.g c.lw) (eg:∀ args w,(callFunc c.g args).run Tryz.prog w=.ok (.enter c.g args) w):∀ J,AtOv K n σ HP Bw T c ob wb mb m0 V0 kt J false
 | 0=>by
   intro k o W m V e hs he _ hlev hkt;refine over_const hs he ?_ (by omega);rcases he with h|⟨b,hb⟩
   ·
    exact h
   ·
    exfalso;have h1:=hs.at_.st.ok.dag.lt b.v (hs.at_.st.ok.dag.var _ _ hb);rw[hs.vars] at h1;unfold lvE at hlev;rw[hb] at hlev;simp at hlev;omega
 | J+1=>over_neg (over_even hK hHP hB hw eg (over_at hK hHP hB hw eg J)) hHP hB
end
open Go.RowKit
section
variable {K:Law} {n:Nat} {Od:List Nat->Prop} {room:Nat} {w0:World} {fs:List (Int×BF)} {nx:Int} {σ:Nat->BF} {HP:ManD->(Nat->BF)->Prop} {Bw:World->Prop} {T:Nat->Prop} {o:Own} {w:World} {mb xb:Nat} {m:ManD} {V:Nat->BF}
theorem over1_c (hK:Zbu K) (hHP:∀ {o o':Own} {w w':World} {m m':ManD} {V V':Nat->BF},Step K o w mb m V o' w' m' V'->HP m V->HP m' V') (hB:∀ W W',Bw W->(∀ q,T q->W'.heap[q]?=W.heap[q]?)->Bw W') {g:Nat} {lw:Array Value} (hw:WithOK K n σ HP Bw T g lw) (eg:∀ args w,(callFunc g args).run Tryz.prog w=.ok (.enter g args) w)
 {b4 bf:Nat} {kf:Int} {F:BF} (hF:(kf,F)∈fs) (hsat:SatE K n Od room w0 mb fs nx w o m V) (hp:HP m V) (hbw:Bw w) (c4:w.cell? ⟨b4,0,none⟩=some (.func (.func g) #[] lw)) (cf:w.cell? ⟨bf,0,none⟩=some (.int .i64 kf)) (hno:∀ q,(q=b4\/q=bf\/T q)->o q=none) (hT:∀ q,T q->q<w.heap.size) (hx:Zer o w xb mb) :
 Calls Tryz.prog 273 #[.pointer (some ⟨xb,0,none⟩),.pointer (some ⟨b4,0,none⟩),.pointer (some ⟨bf,0,none⟩)] w (Zmm K ((2^n-1)*(2^n+1)) o w mb m V fun _ V' r=>ef V' r=compF σ F):=by
 have hmf:∀ (fn:Fn) (first cap:Array Value) (w:World),(Instr.makeFunc fn first cap).run Tryz.prog w=.ok (.func fn first cap) w:=fun _ _ _ _=>rfl
 have hmm:=fun t w=>Zg2 (P:=Tryz.prog) w t
 obtain⟨w4,hw4⟩:∃ w4,w4=(((w.alloc (.cells #[.pointer (some ⟨xb,0,none⟩)] 170)).alloc (.map #[] 0)).alloc (.cells #[.map (some (w.heap.size+1))] 312)).alloc (.cells #[.nilFunc] 302):=⟨_,rfl⟩;have HW4:Hid (_=w4):=Hd hw4.symm;have hz4:w4.heap.size=w.heap.size+1+1+1+1:=by rw[hw4];simp
 have hb4:Below w.heap.size w w4:=by rw[hw4];exact(((Zaf _ _).alloc (by simp) _).alloc (by simp;omega) _).alloc (by simp;omega) _
 have g0:w4.heap[w.heap.size]?=some (.cells #[.pointer (some ⟨xb,0,none⟩)] 170 (0,0)):=by
  rw[hw4];exact(Go.heap_alloc_old _ _ (by simp;omega)).trans ((Go.heap_alloc_old _ _ (by simp;omega)).trans ((Go.heap_alloc_old _ _ (by simp)).trans (heap_alloc_new _ _)))
 have g1:Zcl w4 (w.heap.size+1) (Value.int .i64) []:=by
  have h1:=Znw (w.alloc (.cells #[.pointer (some ⟨xb,0,none⟩)] 170)) (Value.int .i64);rw[World.size_alloc] at h1;rw[hw4];exact(h1.below (Zaf _ _)).below (Zaf _ _)
 have g2:w4.heap[w.heap.size+1+1]?=some (.cells #[.map (some (w.heap.size+1))] 312 (0,0)):=by
  have:=heap_alloc_new ((w.alloc (.cells #[.pointer (some ⟨xb,0,none⟩)] 170)).alloc (.map #[] 0)) (.cells #[.map (some (w.heap.size+1))] 312);rw[World.size_alloc,World.size_alloc] at this;rw[hw4];exact(Go.heap_alloc_old _ _ (by simp)).trans this
 have g3:w4.heap[w.heap.size+1+1+1]?=some (.cells #[.nilFunc] 302 (0,0)):=by
  have:=heap_alloc_new (((w.alloc (.cells #[.pointer (some ⟨xb,0,none⟩)] 170)).alloc (.map #[] 0)).alloc (.cells #[.map (some (w.heap.size+1))] 312)) (.cells #[.nilFunc] 302);rw[World.size_alloc,World.size_alloc,World.size_alloc] at this;rw[hw4];exact this
 have c6:=cell1 g3;have f6:w4.frozen? ⟨w.heap.size+1+1+1,0,none⟩=false:=by simp[World.frozen?,g3]
 obtain⟨w5,hw5⟩:∃ w5,w5=w4.setCell ⟨w.heap.size+1+1+1,0,none⟩ (.func (.func 274) #[] #[.pointer (some ⟨w.heap.size+1+1+1,0,none⟩),.pointer (some ⟨w.heap.size+1+1,0,none⟩),.pointer (some ⟨w.heap.size,0,none⟩),.pointer (some ⟨b4,0,none⟩)]):=⟨_,rfl⟩;have HW5:Hid (_=w5):=Hd hw5.symm;have hk5:∀ q:Nat,q≠w.heap.size+1+1+1->w5.heap[q]?=w4.heap[q]?:=fun q hq=>by rw[hw5];exact Zad hq _
 have e6:w5.heap[w.heap.size+1+1+1]?=some (.cells #[.func (.func 274) #[] #[.pointer (some ⟨w.heap.size+1+1+1,0,none⟩),.pointer (some ⟨w.heap.size+1+1,0,none⟩),.pointer (some ⟨w.heap.size,0,none⟩),.pointer (some ⟨b4,0,none⟩)]] 302 (0,0)):=by rw[hw5];exact Zag g3 _
 have hb5:Below w.heap.size w w5:=by rw[hw5];exact hb4.setCell (p:=⟨w.heap.size+1+1+1,0,none⟩) (by show w.heap.size<=w.heap.size+1+1+1;omega) _
 have hsto:(store ⟨w.heap.size+1+1+1,0,none⟩ (.func (.func 274) #[] #[.pointer (some ⟨w.heap.size+1+1+1,0,none⟩),.pointer (some ⟨w.heap.size+1+1,0,none⟩),.pointer (some ⟨w.heap.size,0,none⟩),.pointer (some ⟨b4,0,none⟩)])).run Tryz.prog w4=.ok () w5:=by
  rw[run_store _ _ _ _ _ rfl];simp[c6,f6,hw5]
 obtain⟨wd,hwd⟩:∃ wd,wd=w5.drew:=⟨_,rfl⟩;have HWD:=Hd hwd;have hbd:Below w.heap.size w wd:=by rw[hwd];exact hb5.trans ((Zah w5 1).mono hb5.size)
 have hkd:∀ q:Nat,wd.heap[q]?=w5.heap[q]?:=fun q=>by rw[hwd];rfl
 have k6:wd.cell? ⟨w.heap.size+1+1+1,0,none⟩=some (.func (.func 274) #[] #[.pointer (some ⟨w.heap.size+1+1+1,0,none⟩),.pointer (some ⟨w.heap.size+1+1,0,none⟩),.pointer (some ⟨w.heap.size,0,none⟩),.pointer (some ⟨b4,0,none⟩)]):=cell1 ((hkd _).trans e6);have k3:wd.cell? ⟨w.heap.size,0,none⟩=some (.pointer (some ⟨xb,0,none⟩)):=cell1 ((hkd _).trans ((hk5 _ (by omega)).trans g0));have k5:wd.cell? ⟨w.heap.size+1+1,0,none⟩=some (.map (some (w.heap.size+1))):=cell1 ((hkd _).trans ((hk5 _ (by omega)).trans g2));have km:Zcl wd (w.heap.size+1) (Value.int .i64) []:=g1.keepB ((hkd _).trans (hk5 _ (by omega)));have kf0:=(hbd.cell (p:=⟨bf,0,none⟩) (Zab cf)).trans cf;have k4:=(hbd.cell (p:=⟨b4,0,none⟩) (Zab c4)).trans c4;obtain⟨f,hf,hef⟩:=hsat.find hF;have hk:=hsat.ok;have hlt:=hsat.lt;have hxl:xb<w.heap.size:=Zab hx.cell;have hxd:Zer o wd xb mb:=⟨(hbd.cell (p:=⟨xb,0,none⟩) (Zab hx.cell)).trans hx.cell,hx.own⟩;have hs:OvS K n σ HP Bw T ⟨w.heap.size+1+1+1,w.heap.size+1+1,w.heap.size+1,w.heap.size,b4,xb,g,lw⟩ o w mb m V 0 o wd m V:=by
  have hb4l:b4<w.heap.size:=Zab c4;have n1:w.heap.size+1≠w.heap.size+1+1+1:=by omega
  have n2:w.heap.size+1≠w.heap.size+1+1:=by omega
  have n3:w.heap.size+1≠w.heap.size:=by omega
  have n4:w.heap.size+1≠b4:=by omega
  have n5:w.heap.size+1≠xb:=by omega
  have n6:¬ T (w.heap.size+1):=fun e=>by have:=hT _ e;omega
  refine⟨(AtC.refl hsat.is hlt hk.store).below hbd,hsat.vars,hxd,hp,hB _ _ hbw (fun q hq=>hbd.block q (hT q hq)),k6,k5,k3,k4,?_,fun q hq=>Nat.lt_of_lt_of_le (hT q hq) hbd.size,⟨n1,n2,n3,n4,n5,n6⟩,by show w.heap.size<=w.heap.size+1;omega,⟨[],km,fun p hp=>by simp at hp⟩⟩;rintro q (rfl|rfl|rfl|rfl|rfl|hq)
  ·
   exact hlt.none (by show w.heap.size<=w.heap.size+1+1+1;omega)
  ·
   exact hlt.none (by show w.heap.size<=w.heap.size+1+1;omega)
  ·
   exact hlt.none (by show w.heap.size<=w.heap.size+1;omega)
  ·
   exact hlt.none (Nat.le_refl _)
  ·
   exact hno _ (.inl rfl)
  ·
   exact hno _ (.inr (.inr hq))
 have hcall:=over_at (T:=T) (ob:=o) (wb:=w) (mb:=mb) (m0:=m) (V0:=V) (kt:=(2^n-1)*(2^n+1)) (c:=⟨w.heap.size+1+1+1,w.heap.size+1+1,w.heap.size+1,w.heap.size,b4,xb,g,lw⟩) hK hHP hB hw eg n 0 o wd m V f hs (hk.handles.ok _ hf) (fun h=>by cases h) (by omega) (by omega);have HED:=Hd (Zdo hs.at_.st.is hxd hk.handles.nodup hf);obtain⟨P,hP⟩:∃ P:Ending->World->Prop,P=Zmm K ((2^n-1)*(2^n+1)) o w mb m V fun _ V' r=>ef V' r=compF σ F:=⟨_,rfl⟩
 have HCALL:Hid (Calls Tryz.prog 274 #[.int .i64 f,.pointer (some ⟨w.heap.size+1+1+1,0,none⟩),.pointer (some ⟨w.heap.size+1+1,0,none⟩),.pointer (some ⟨w.heap.size,0,none⟩),.pointer (some ⟨b4,0,none⟩)] wd fun x w'=>(∃ u,x=.returned u/\(w'.cell? ⟨w.heap.size+1+1+1,0,none⟩=some (.func (.func 274) #[] #[.pointer (some ⟨w.heap.size+1+1+1,0,none⟩),.pointer (some ⟨w.heap.size+1+1,0,none⟩),.pointer (some ⟨w.heap.size,0,none⟩),.pointer (some ⟨b4,0,none⟩)])/\w'.cell? ⟨w.heap.size,0,none⟩=some (.pointer (some ⟨xb,0,none⟩))/\w'.cell? ⟨bf,0,none⟩=some (.int .i64 kf))/\∃ r:Nat,u=.int .i64 r/\P (.returned (.int .i64 r)) w')\/(∃ ch,x=.panicked ch/\P (.panicked ch) w')):=Hd (hcall.mono (by
  rintro x w' (⟨r,o2,m2,V2,rfl,p1,p2,p3,p4⟩|⟨er,evt,ev,rfl,hst⟩)
  ·
   refine .inl ⟨_,rfl,⟨p1.f,p1.x,p1.at_.st.chg.cell cf (hno _ (.inr (.inl rfl)))⟩,r,rfl,?_⟩;rw[hP];refine .inl ⟨r,o2,m2,V2,rfl,p1.at_.mono (by omega),p3,?_⟩
   show ef V2 r=_
   rw[p4,show ef V f=F from hef]
  ·
   refine .inr ⟨_,rfl,?_⟩;rw[hP];exact .inr ⟨er,evt,ev,rfl,hst⟩))
 rw[<- hP];have eg1:=enters_over11;clear hP hcall hs hk hlt hef hf hxl hsat hp hbw hB hHP hw hK hno hT hx hb4 hb5 hbd hkd hk5 e6 g0 g1 g2 g3 hw4 hw5 hwd k5 km k4 hF hz4 hxd
 go_enter Tryz.func273,Tryz.ntmps273
 go_upto_region 3 with fail;rw[HW4.out];go_upto_region 4 with fail;refine nx_start [0,1,2,3,4,5] (fun W=>W.cell? ⟨w.heap.size+1+1+1,0,none⟩=some (.func (.func 274) #[] #[.pointer (some ⟨w.heap.size+1+1+1,0,none⟩),.pointer (some ⟨w.heap.size+1+1,0,none⟩),.pointer (some ⟨w.heap.size,0,none⟩),.pointer (some ⟨b4,0,none⟩)])/\W.cell? ⟨w.heap.size,0,none⟩=some (.pointer (some ⟨xb,0,none⟩))/\W.cell? ⟨bf,0,none⟩=some (.int .i64 kf)) (fun ch w'=>P (.panicked ch) w') (fun c a w hd h=>⟨hd,h⟩) (by kernel_rfl) (by rw[<- HWD.out];exact⟨k6,k3,kf0⟩) ?_;rw[<- HWD.out]
 iterate 3
  refine nx_read rfl rfl (by kernel_rfl) ?_;apply Exists.intro;refine⟨fun w' hw=>?_,?_⟩
  ·
   obtain⟨q1,q2,q3⟩:=hw;go_simp;rfl
  simp only[Zai]
 refine nx_callR (R1:=fun u w'=>u=.int .i64 f/\wd=w') rfl (by kernel_rfl) rfl rfl (by go_simp) (HED.out.mono fun x w' h=>⟨_,h.1,rfl,h.2⟩) (by rintro u w' ⟨_,rfl⟩;exact⟨k6,k3,kf0⟩) ?_;rintro u w'-⟨rfl,rfl⟩;simp only[Zai];refine nx_call rfl (by kernel_rfl) rfl rfl (by go_simp) HCALL.out ?_;rintro u w2 hS ⟨r,rfl,hp⟩;have HF:=Hd hp;clear hp hS;simp only[Zai];refine nx_read rfl rfl (by kernel_rfl) ?_;apply Exists.intro;refine⟨fun w' hw=>?_,?_⟩
 ·
  go_simp;rfl
 simp only[Zai];refine nx_end (by kernel_rfl) ?_;clear k6 k3 kf0;go_wp2_with fail;exact HF.out
end
open Go.RowKit
section
variable {K:Law} {n:Nat} {Od:List Nat->Prop} {room:Nat} {w0:World} {fs:List (Int×BF)} {nx:Int} {σ:Nat->BF} {HP:ManD->(Nat->BF)->Prop} {Bw:World->Prop} {T:Nat->Prop} {o:Own} {w w1:World} {mb xb:Nat} {m:ManD} {V:Nat->BF} {ws0:List Ev}
theorem boxes2v (w:World) (x y:Value) (s t:TypeId):∃ w3,w3=(w.alloc (.cells #[x] s)).alloc (.cells #[y] t)/\Below w.heap.size w w3/\w3.heap.size=w.heap.size+2/\w3.cell? ⟨w.heap.size,0,none⟩=some x/\w3.cell? ⟨w.heap.size+1,0,none⟩=some y:=by
 refine⟨_,rfl,(Zaf _ _).alloc (by simp) _,by simp,?_,?_⟩
 ·
  exact cell1 ((Go.heap_alloc_old _ _ (by simp)).trans (heap_alloc_new _ _))
 ·
  have:=heap_alloc_new (w.alloc (.cells #[x] s)) (.cells #[y] t);rw[World.size_alloc] at this;exact cell1 this
theorem over_any (hK:Zbu K) (hHP:∀ {o o':Own} {w w':World} {m m':ManD} {V V':Nat->BF},Step K o w mb m V o' w' m' V'->HP m V->HP m' V') (hB:∀ W W',Bw W->(∀ q,T q->W'.heap[q]?=W.heap[q]?)->Bw W') {g:Nat} {lw:Array Value} (hw:WithOK K n σ HP Bw T g lw) (eg:∀ args w,(callFunc g args).run Tryz.prog w=.ok (.enter g args) w)
 (hp:∀ o W m V,SatE K n (fun _=>True) room w0 mb fs nx W o m V->HP m V) {kf:Int} {F:BF} (hF:(kf,F)∈fs) (h:SatE K n (fun _=>True) room w0 mb fs nx w o m V) (hb:Below w.heap.size w w1) (hT:∀ q,T q->w.heap.size<=q/\q<w1.heap.size) (hbw:Bw w1) (hst:m.waits <:+ ws0) (hn:nx<=549755813888) (hr:fs.length*2^n+(2^n-1)*(2^n+1)<=room) :
 Calls Tryz.prog 225 #[.pointer (some ⟨mb,0,none⟩),.int .i64 kf,.func (.func g) #[] lw] w1 (NewF K n room w0 mb fs nx ws0 (compF σ F) o w):=by
 have hmf:∀ (fn:Fn) (first cap:Array Value) (w:World),(Instr.makeFunc fn first cap).run Tryz.prog w=.ok (.func fn first cap) w:=fun _ _ _ _=>rfl
 obtain⟨w3,hw3,hb3,hz3,c0,c1⟩:=boxes2v w1 (.int .i64 kf) (.func (.func g) #[] lw) 3 265;have HW3:Hid (_=w3):=Hd hw3.symm;have hsz:=hb.size
 have HDO:=Hd (Zw8 (C:=fun q=>q=w1.heap.size+1\/q=w1.heap.size\/T q) (B:=fun W=>(W.cell? ⟨w1.heap.size+1,0,none⟩=some (.func (.func g) #[] lw)/\W.cell? ⟨w1.heap.size,0,none⟩=some (.int .i64 kf))/\Bw W) (F:=compF σ F) (k:=(2^n-1)*(2^n+1)) (lop:=#[.pointer (some ⟨w1.heap.size+1,0,none⟩),.pointer (some ⟨w1.heap.size,0,none⟩)]) hK enters_over1 ws0
  (fun W W' hb hk=>⟨⟨(World.cell?_of_block (w:=W) (a:=⟨w1.heap.size+1,0,none⟩) (hk _ (.inl rfl))).trans hb.1.1,(World.cell?_of_block (w:=W) (a:=⟨w1.heap.size,0,none⟩) (hk _ (.inr (.inl rfl)))).trans hb.1.2⟩,hB _ _ hb.2 (fun q hq=>hk q (.inr (.inr hq)))⟩)
  (fun o W m V xb hs hB2 hC hx _=>over1_c hK hHP hB hw eg hF hs (hp _ _ _ _ hs) hB2.2 hB2.1.1 hB2.1.2 (fun q hq=>(hC q hq).2) (fun q hq=>(hC q (.inr (.inr hq))).1) hx) h (hb.trans (hb3.mono hb.size)) (by
   rintro q (rfl|rfl|hq)
   ·
    exact⟨by omega,.inl (by omega)⟩
   ·
    exact⟨by omega,.inl (by omega)⟩
   ·
    have:=hT q hq;exact⟨by omega,.inl this.1⟩) ⟨⟨c1,c0⟩,hB _ _ hbw (fun q hq=>hb3.block q (hT q hq).2)⟩ hst hn hr)
 clear hw3 hb3 hz3 c0 c1 h hK hw hst hn hr hF hHP hB hp hT hbw hb hsz;obtain⟨P,hP⟩:∃ P,P=NewF K n room w0 mb fs nx ws0 (compF σ F) o w:=⟨_,rfl⟩;rw[<- hP] at HDO ⊢;have HT:Hid (∀ x w',P x w'->∃ a b,x=.returned (.tuple #[.int .i64 a,.int .i64 b])):=Hd (by subst hP;rintro x w' ⟨rfl,_⟩;exact⟨_,_,rfl⟩);clear hP
 go_enter Tryz.func225,Tryz.ntmps225
 go_upto_region 1 with fail;rw[HW3.out];go_wp2_with fail;refine HDO.out.mono ?_;intro x w' hd;obtain⟨a,b,rfl⟩:=HT.out x w' hd;have HD:=Hd hd;clear hd;go_wp2_with fail;exact HD.out
theorem subVariable_any (h:SatE K n Od room w0 mb fs nx w o m V) (v:Int):Calls Tryz.prog 224 #[.pointer (some ⟨mb,0,none⟩),.int .i64 v] w fun x w'=>x=.returned (.bool (decide (0<=v/\v<(n:Int))))/\w=w':=by
 have HV:=Hd h.vars_any;clear h
 by_cases h0:v>=0
 ·
  by_cases h1:v<(n:Int)
  ·
   rw[decide_eq_true ⟨h0,h1⟩];have hd:decide (v<(n:Int))=true:=decide_eq_true h1
   go_enter Tryz.func224,Tryz.ntmps224
   go_wp2_with fail;refine HV.out.mono ?_;rintro x w' ⟨rfl,rfl⟩;go_wp2_with fail;go_ret;exact⟨rfl,rfl⟩
  ·
   rw[decide_eq_false (fun hh=>h1 hh.2)];have hd:decide (v<(n:Int))=false:=decide_eq_false h1
   go_enter Tryz.func224,Tryz.ntmps224
   go_wp2_with fail;refine HV.out.mono ?_;rintro x w' ⟨rfl,rfl⟩;go_wp2_with fail;go_ret;exact⟨rfl,rfl⟩
 ·
  rw[decide_eq_false (fun hh=>h0 hh.1)]
  go_enter Tryz.func224,Tryz.ntmps224
  go_wp2_with fail;go_ret;exact⟨rfl,rfl⟩
def known (fs:List (Int×BF)) (k:Int):Prop:=∃ F,(k,F)∈fs
theorem manIs_known (h:SatE K n Od room w0 mb fs nx w o m V) (k:Int) {b:Bool} (hb:b=true↔known fs k):Calls Tryz.prog 44 #[.pointer (some ⟨mb,0,none⟩),.int .i64 k] w fun x w'=>x=.returned (.bool b)/\w=w':=by
 cases b with
 | true =>
   obtain⟨F,hF⟩:=hb.1 rfl;exact Znu h hF
 | false=>exact Zp2 h (fun p hp e=>by
  have:known fs k:=⟨p.2,by rw[<- e];exact hp⟩;have:=hb.2 this;cases this)
theorem asked_any (h:SatE K n Od room w0 mb fs nx w o m V) {a:Option Addr} {c:Nat} {ks:List Int} (hz:Za2 w a ks) {er:Int} (her:(er=0/\∀ k∈ks,known fs k)\/(er=8/\∃ k∈ks,¬ known fs k)) :
 Calls Tryz.prog 223 #[.pointer (some ⟨mb,0,none⟩),.slice a ks.length c] w fun x w'=>x=.returned (.int .i64 er)/\w=w':=by
 have HZ:=Hd hz;have hzl:=hz.len;have HIS:Hid (∀ k b,(b=true↔known fs k)->Calls Tryz.prog 44 #[.pointer (some ⟨mb,0,none⟩),.int .i64 k] w fun x w'=>x=.returned (.bool b)/\w=w'):=Hd fun k b hb=>manIs_known h k hb
 obtain⟨P,hP⟩:∃ P:Ending->World->Prop,P=fun x w'=>x=.returned (.int .i64 er)/\w=w':=⟨_,rfl⟩
 have HBAD:Hid (∀ k∈ks,¬ known fs k->P (.returned (.int .i64 8)) w):=Hd fun k hk hn=>by
  rw[hP];rcases her with ⟨_,h2⟩|⟨rfl,_⟩
  ·
   exact absurd (h2 k hk) hn
  ·
   exact⟨rfl,rfl⟩
 have HGOOD:Hid ((∀ q,q<ks.length->known fs (at0 ks q))->P (.returned (.int .i64 0)) w):=Hd fun hq=>by
  rw[hP];rcases her with ⟨rfl,_⟩|⟨_,k,hk,hn⟩
  ·
   exact⟨rfl,rfl⟩
  ·
   obtain⟨q,hq1,rfl⟩:=List.getElem_of_mem hk;have:=hq q hq1;rw[Zca hq1] at this;exact absurd this hn
 rw[<- hP];clear hP h hz her
 go_enter Tryz.func223,Tryz.ntmps223
 go_wp2_with fail
 go_loopw [4,6,11] (fun _ _ s11 wr=>∃ j:Nat,j<=ks.length/\s11=.int .i64 j/\wr=w/\Hid (∀ q,q<j->known fs (at0 ks q))) (fun _ _ s11 _=>ks.length-(intOf s11).toNat)
 case atStart=>exact⟨0,Nat.zero_le _,rfl,rfl,Hd fun q hq=>by omega⟩
 case round =>
  obtain⟨j,hj,rfl,rfl,HQ⟩:=hrel
  by_cases hlt:j<ks.length
  ·
   have hjz:(j:Int)<(ks.length:Int):=by omega
   obtain⟨b,off,rfl,ck⟩:=HZ.out.cells j hlt;obtain⟨z,hz⟩:∃ z,z=at0 ks j:=⟨_,rfl⟩;rw[<- hz] at ck;have HIN:Hid (z∈ks):=Hd (by rw[hz,Zca hlt];exact List.getElem_mem hlt);have HZE:=Hd hz;clear hz
   by_cases hkn:known fs z
   ·
    have HI:=Hd (HIS.out z true (by simp[hkn]));have HQ2:Hid (∀ q,q<j+1->known fs (at0 ks q)):=Hd fun q hq=>by
     rcases Nat.lt_or_ge q j with h|h
     ·
      exact HQ.out q h
     ·
      obtain rfl:q=j:=by omega
      rw[<- HZE.out];exact hkn
    clear hkn;go_wp2_with fail;refine HI.out.mono ?_;rintro x w' ⟨rfl,rfl⟩;go_wp2_with fail;go_roundw
    case rel=>exact⟨j+1,by omega,by go_num,by trivial,HQ2⟩
    case measure=>simp[intOf];omega
   ·
    have HI:=Hd (HIS.out z false (by simp[hkn]));have HF:=Hd (HBAD.out z HIN.out hkn);clear hkn;go_wp2_with fail;refine HI.out.mono ?_;rintro x w' ⟨rfl,rfl⟩;go_wp2_with fail;exact HF.out
  ·
   obtain rfl:j=ks.length:=by omega
   have hjz:¬ (ks.length:Int)<(ks.length:Int):=by omega
   have HF:=Hd (HGOOD.out HQ.out);go_wp2_with fail;exact HF.out
end
open Go.RowKit
theorem enters_flip1 (args:Array Value) (w:World):(callFunc 226 args).run Tryz.prog w=.ok (.enter 226 args) w:=enters_of Tryz.func226 (by kernel_rfl) rfl args w

open Go.RowKit
def sigF (zs:List Int):Nat->BF:=fun u=>if (u:Int)∈zs then notF (varF u) else varF u
theorem zeroBool (w:World):(zeroValue 4).run Tryz.prog w=.ok (.bool false) w:=(zero_of_info (n:=1) (by kernel_rfl)).1 w
structure TurnM (bm tb:Nat) (zs:List Int) (W:World):Prop where
 c:W.cell? ⟨bm,0,none⟩=some (.map (some tb))
 m:∃ l,Zcl W tb (Value.int .i64) l/\∀ u:Int,getL l u=if u∈zs then some (.bool true) else none
section
variable {K:Law} {n:Nat} {room:Nat} {w0:World} {fs:List (Int×BF)} {nx:Int} {o o':Own} {w w':World} {mb:Nat} {m m':ManD} {V V':Nat->BF} {ws0:List Ev} {k:Int} {G:BF}
theorem TurnM.look {bm tb:Nat} {zs:List Int} {W:World} (h:TurnM bm tb zs W) (u:Int):(Instr.lookup 192 (.map (some tb)) (.int .i64 u) false).run Tryz.prog W=.ok (.bool (decide (u∈zs))) W:=by
 obtain⟨l,hl,hg⟩:=h.m;have h1:=hl.lookup kI Tryz.underlying192 zeroBool u false;rw[h1,hg]
 by_cases e:u∈zs
 ·
  simp[e]
 ·
  simp[e]
theorem TurnM.keep {bm tb:Nat} {zs:List Int} {W W':World} (h:TurnM bm tb zs W) (hk:∀ q,(q=bm\/q=tb)->W'.heap[q]?=W.heap[q]?):TurnM bm tb zs W':=by
 obtain⟨l,hl,hg⟩:=h.m;exact⟨(World.cell?_of_block (w:=W) (a:=⟨bm,0,none⟩) (hk _ (.inl rfl))).trans h.c,l,hl.keepB (hk _ (.inr rfl)),hg⟩
theorem flip1_w (hK:Zbu K) {bm tb:Nat} {zs:List Int}:WithOK K n (sigF zs) (fun _ _=>True) (TurnM bm tb zs) (fun q=>q=bm\/q=tb) 226 #[.pointer (some ⟨bm,0,none⟩)]:=by
 intro o W xb mb m V v hm hlt hx hk hn _ hbw hT hv;have hbd:Below W.heap.size W W.drew:=Zah W 1;obtain⟨s,hms⟩:=hm;have hmd:Zdz (K m.d V) o W.drew mb m:=⟨s,hms.below hlt hbd⟩;have hxd:Zer o W.drew xb mb:=⟨(hbd.cell (p:=⟨xb,0,none⟩) (Zab hx.cell)).trans hx.cell,hx.own⟩;have hbwd:TurnM bm tb zs W.drew:=hbw.keep fun _ _=>rfl
 have hat:AtC K 0 o W mb m V o W.drew m V:=(AtC.refl ⟨s,hms⟩ hlt hk).below hbd;obtain⟨P,hP⟩:∃ P:Ending->World->Prop,P=fun e w'=>(∃ (r:Nat) (ok:Bool) (o':Own) (m':ManD) (V':Nat->BF),e=.returned (.tuple #[.int .i64 r,.bool ok])/\AtC K 1 o W mb m V o' w' m' V'/\okE (Zaa m'.d) r/\(ok=true->ef V' r=sigF zs v)/\(ok=false->sigF zs v=varF v)) \/
  (∃ er evt ev,e=Zdq er evt ev/\Zu3 K 1 o W mb m V er evt ev w'):=⟨_,rfl⟩
 obtain⟨b,hb⟩:∃ b:Bool,b=decide ((v:Int)∈zs):=⟨_,rfl⟩
 have HMK:Hid (Calls Tryz.prog 190 #[.pointer (some ⟨xb,0,none⟩),.int .i64 v,.int .i64 1,.int .i64 0] W.drew fun e w'=>(∃ u,e=.returned u/\(w'.heap[bm]?=W.drew.heap[bm]?/\w'.heap[tb]?=W.drew.heap[tb]?)/\∃ r:Nat,u=.int .i64 r/\(Calls Tryz.prog 112 #[.int .i64 r] w' fun x w2=>x=.returned (.int .i64 (enot r:Nat))/\w'=w2)/\P (.returned (.tuple #[.int .i64 (enot r:Nat),.bool b])) w')\/(∃ ch,e=.panicked ch/\P (.panicked ch) w')):=Hd ((ctxVar_c hK hmd (hlt.mono hbd.size) hxd hk v (by rw[hn];exact hv)).mono (by
  rintro e w' (⟨r,o',m',V',rfl,p1,p2,p3⟩|⟨er,evt,ev,rfl,hst⟩)
  ·
   refine .inl ⟨_,rfl,⟨p1.st.chg.alien (hT _ (.inl rfl)).1 (hT _ (.inl rfl)).2,p1.st.chg.alien (hT _ (.inr rfl)).1 (hT _ (.inr rfl)).2⟩,r,rfl,Zly r w' (Zvd p1.st.is p2),?_⟩;rw[hP];refine .inl ⟨enot r,b,o',m',V',rfl,(hat.trans p1).mono (by omega),Zp7 p2,fun e=>?_,fun e=>?_⟩
   ·
    rw[hb,decide_eq_true_eq] at e;unfold sigF;rw[if_pos e,Zx3,p3]
   ·
    rw[hb,decide_eq_false_iff_not] at e;unfold sigF;rw[if_neg e]
  ·
   refine .inr ⟨_,rfl,?_⟩;rw[hP];exact .inr ⟨er,evt,ev,rfl,hst.after hat (by omega)⟩))
 have hlk:∀ W',W'.heap[bm]?=W.drew.heap[bm]?->W'.heap[tb]?=W.drew.heap[tb]?->W'.cell? ⟨bm,0,none⟩=some (.map (some tb))/\(Instr.lookup 192 (.map (some tb)) (.int .i64 (v:Nat)) false).run Tryz.prog W'=.ok (.bool b) W':=fun W' e1 e2=>by
  have h:=hbwd.keep (W':=W') (by rintro q (rfl|rfl)<;>assumption);exact⟨h.c,by rw[hb];exact h.look _⟩
 have HLK:=Hd hlk;have cb:=hbwd.c
 show Calls _ _ #[_,_,_] _ _
 rw[<- hP];clear hP hx hk hn hbd hms hmd hxd hat hlt hv hb hbw hbwd hlk hK hT
 go_enter Tryz.func226,Tryz.ntmps226
 go_upto_region 1 with fail;refine nx_start [0,1,4,5,6,2,3,7,8] (fun W':World=>W'.heap[bm]?=W.drew.heap[bm]?/\W'.heap[tb]?=W.drew.heap[tb]?) (fun ch w'=>P (.panicked ch) w') (fun c a w hd h=>⟨hd,h⟩) (by kernel_rfl) ⟨rfl,rfl⟩ ?_
 iterate 5
  refine nx_read rfl rfl (by kernel_rfl) ?_;apply Exists.intro;refine⟨fun w' hw=>?_,?_⟩
  ·
   obtain⟨q1,q2⟩:=HLK.out w' hw.1 hw.2;clear hw;go_simp;rfl
  simp only[Zai]
 refine nx_call rfl (by kernel_rfl) rfl rfl (by go_simp) HMK.out ?_;rintro u w2 hS ⟨r,rfl,hn,hp⟩;have HF:=Hd hp;have HNR:=Hd hn;have HS:=Hd hS;clear hn hp hS HMK HLK cb;simp only[Zai];refine nx_callR (R1:=fun u w'=>u=.int .i64 (enot r:Nat)/\w2=w') rfl (by kernel_rfl) rfl rfl (by go_simp) (HNR.out.mono fun x w' h=>⟨_,h.1,rfl,h.2⟩) (by rintro u w' ⟨_,rfl⟩;exact HS.out) ?_;rintro u w'-⟨rfl,rfl⟩;simp only[Zai]
 iterate 2
  refine nx_read rfl rfl (by kernel_rfl) ?_;apply Exists.intro;refine⟨fun w' hw=>?_,?_⟩
  ·
   clear hw;go_simp;rfl
  simp only[Zai]
 refine nx_end (by kernel_rfl) ?_;go_wp2_with fail;exact HF.out
end
open Go.RowKit
section
variable {K:Law} {n:Nat} {room:Nat} {w0:World} {fs:List (Int×BF)} {nx:Int} {o o':Own} {w w':World} {mb:Nat} {m m':ManD} {V V':Nat->BF} {ws0:List Ev} {k:Int} {G:BF}
theorem subFlip_any (hK:Zbu K) (h:SatE K n (fun _=>True) room w0 mb fs nx w o m V) {kf:Int} {F:BF} (hf:(kf,F)∈fs) {a:Option Addr} {c:Nat} {zs:List Int} (hz:Za2 w a zs) (hst:m.waits <:+ ws0) (hn:nx<=549755813888) (hr:fs.length*2^n+(2^n-1)*(2^n+1)<=room) :
 Calls Tryz.prog 143 #[.pointer (some ⟨mb,0,none⟩),.int .i64 kf,.slice a zs.length c] w fun x w'=>((∀ v∈zs,0<=v/\v<(n:Int))->NewF K n room w0 mb fs nx ws0 (compF (sigF zs) F) o w x w')/\((∃ v∈zs,¬ (0<=v/\v<(n:Int)))->x=.returned (.tuple #[.int .i64 0,.int .i64 9])/\Below w.heap.size w w'):=by
 have hmf:∀ (fn:Fn) (first cap:Array Value) (w:World),(Instr.makeFunc fn first cap).run Tryz.prog w=.ok (.func fn first cap) w:=fun _ _ _ _=>rfl
 have hmm:=fun t w=>Zg2 (P:=Tryz.prog) w t
 obtain⟨w1,hw1⟩:∃ w1,w1=w.alloc (.cells #[.int .i64 kf] 3):=⟨_,rfl⟩;have HW1:Hid (_=w1):=Hd hw1.symm;have hb1:Below w.heap.size w w1:=by rw[hw1];exact Zaf _ _
 have hz1:w1.heap.size=w.heap.size+1:=by rw[hw1];simp
 have hz':Za2 w1 (some ⟨w.heap.size,0,none⟩) [kf]:=by rw[hw1];exact Zgd w [kf] (by simp)
 have HASK:=Hd (asked_any (h.below hb1) (c:=1) hz' (er:=0) (.inl ⟨rfl,fun k hk=>by simp at hk;subst hk;exact⟨F,hf⟩⟩));obtain⟨w2,hw2⟩:∃ w2,w2=(w1.alloc (.map #[] 0)).alloc (.cells #[.map (some w1.heap.size)] 192):=⟨_,rfl⟩;have HW2:Hid (_=w2):=Hd hw2.symm;have hb2:Below w.heap.size w w2:=by rw[hw2];exact(hb1.alloc (by omega) _).alloc (by simp;omega) _
 have g1:Zcl w2 w1.heap.size (Value.int .i64) []:=by rw[hw2];exact(Znw w1 (Value.int .i64)).below (Zaf _ _)
 have g2:w2.heap[w1.heap.size+1]?=some (.cells #[.map (some w1.heap.size)] 192 (0,0)):=by
  have:=heap_alloc_new (w1.alloc (.map #[] 0)) (.cells #[.map (some w1.heap.size)] 192);rw[World.size_alloc] at this;rw[hw2];exact this
 have HT2:Hid (TurnM (w1.heap.size+1) w1.heap.size (zs.take 0) w2):=Hd ⟨cell1 g2,[],g1,fun u=>by simp[getL,Zdd]⟩;have hzl:=hz.len;have HZ:=Hd hz;have HZ1:=Hd hz1;have HB2:=Hd hb2;have HVAR:Hid (∀ W (v:Int),Below w.heap.size w W->Calls Tryz.prog 224 #[.pointer (some ⟨mb,0,none⟩),.int .i64 v] W fun x w'=>x=.returned (.bool (decide (0<=v/\v<(n:Int))))/\W=w'):=Hd fun W v hb=>subVariable_any (h.below hb) v
 obtain⟨P,hP⟩:∃ P:Ending->World->Prop,P=fun x w'=>((∀ v∈zs,0<=v/\v<(n:Int))->NewF K n room w0 mb fs nx ws0 (compF (sigF zs) F) o w x w')/\((∃ v∈zs,¬ (0<=v/\v<(n:Int)))->x=.returned (.tuple #[.int .i64 0,.int .i64 9])/\Below w.heap.size w w'):=⟨_,rfl⟩
 have HNINE:Hid (∀ v W,v∈zs->¬ (0<=v/\v<(n:Int))->Below w.heap.size w W->P (.returned (.tuple #[.int .i64 0,.int .i64 9])) W):=Hd fun v W hv hn hb=>by
  rw[hP];exact⟨fun hh=>absurd (hh v hv) hn,fun _=>⟨rfl,hb⟩⟩
 have HOV:Hid (∀ W,Below w.heap.size w W->TurnM (w1.heap.size+1) w1.heap.size zs W->(∀ q,q<zs.length->0<=at0 zs q/\at0 zs q<(n:Int))->Calls Tryz.prog 225 #[.pointer (some ⟨mb,0,none⟩),.int .i64 kf,.func (.func 226) #[] #[.pointer (some ⟨w1.heap.size+1,0,none⟩)]] W fun x w'=>∃ p q,x=.returned (.tuple #[.int .i64 p,.int .i64 q])/\P x w'):=Hd fun W hb ht hall=>by
  have hall':∀ v∈zs,0<=v/\v<(n:Int):=fun v hv=>by
   obtain⟨q,hq,rfl⟩:=List.getElem_of_mem hv;have:=hall q hq
   rwa [Zca hq] at this
  refine(over_any (σ:=sigF zs) (HP:=fun _ _=>True) (Bw:=TurnM (w1.heap.size+1) w1.heap.size zs) (T:=fun q=>q=w1.heap.size+1\/q=w1.heap.size) hK (fun _ h=>h) (fun W W' hb hk=>hb.keep hk) (flip1_w hK) enters_flip1 (fun _ _ _ _ _=>trivial) hf h hb (by
   obtain⟨l,hl,_⟩:=ht.m;have hl1:=hl.lt;have hl2:w1.heap.size+1<W.heap.size:=Zab ht.c;rintro q (rfl|rfl)
   ·
    exact⟨by omega,hl2⟩
   ·
    exact⟨by omega,hl1⟩) ht hst hn hr).mono ?_
  intro x w' hx;refine⟨nx,0,hx.1,?_⟩;rw[hP];exact⟨fun _=>hx,fun⟨v,hv,hn⟩=>absurd (hall' v hv) hn⟩
 rw[<- hP];clear hP hw1 hb1 hz1 hz' hw2 hb2 g1 g2 h hK hf hz hst hn hr
 go_enter Tryz.func143,Tryz.ntmps143
 go_wp2_with fail;rw[HW1.out];refine HASK.out.mono ?_;rintro x w' ⟨rfl,rfl⟩;go_upto_region 5 with fail;rw[HW2.out];go_wp2_with fail
 go_loopw [6,7,11,22] (fun _ _ _ s22 wr=>∃ j:Nat,j<=zs.length/\s22=.int .i64 j/\Hid (Below w.heap.size w wr)/\Hid (TurnM (w1.heap.size+1) w1.heap.size (zs.take j) wr)/\Hid (∀ q,q<j->0<=at0 zs q/\at0 zs q<(n:Int))) (fun _ _ _ s22 _=>zs.length-(intOf s22).toNat)
 case atStart=>exact⟨0,Nat.zero_le _,rfl,HB2,HT2,Hd fun q hq=>by omega⟩
 case round =>
  obtain⟨j,hj,rfl,HBR,HT,HQ⟩:=hrel;clear HT2 HB2;have cb:=HT.out.c
  by_cases hlt:j<zs.length
  ·
   have hjz:(j:Int)<(zs.length:Int):=by omega
   obtain⟨b,off,rfl,ck⟩:=HZ.out.cells j hlt;have ckr:=(HBR.out.cell (p:=⟨b,off+j,none⟩) (Zab ck)).trans ck;obtain⟨z,hz⟩:∃ z,z=at0 zs j:=⟨_,rfl⟩;rw[<- hz] at ckr;have HZE:=Hd hz;have HTK:Hid (zs.take (j+1)=zs.take j++[z]):=Hd (by rw[List.take_succ_eq_append_getElem hlt,hz,Zca hlt]);have HIN:Hid (z∈zs):=Hd (by rw[hz,Zca hlt];exact List.getElem_mem hlt);have HV:=HVAR.out _ z HBR.out;clear hz ck
   by_cases hok:0<=z/\z<(n:Int)
   ·
    rw[decide_eq_true hok] at HV;have HV2:=Hd HV;obtain⟨l,hl,hg⟩:=HT.out.m;have HL:=Hd hl;have HG:=Hd hg;have HQ2:Hid (∀ q,q<j+1->0<=at0 zs q/\at0 zs q<(n:Int)):=Hd fun q hq=>by
     rcases Nat.lt_or_ge q j with h|h
     ·
      exact HQ.out q h
     ·
      obtain rfl:q=j:=by omega
      rw[<- HZE.out];exact hok
    clear HV hl hg hok;go_wp2_with fail;refine HV2.out.mono ?_;rintro x w' ⟨rfl,rfl⟩;go_wp2_with (refine Zgu (l:=l) rfl _ _ _ rfl kI Tryz.underlying192 z (.bool true) rfl rfl rfl HL.out ?_;intro w9 hm9 hg9);have hw9:Wr (fun q=>q=w1.heap.size) wr w9:=Wr.of_grown hg9 _ (fun q hq=>by cases hq;rfl);have HB9:Hid (Below w.heap.size w w9):=Hd (HBR.out.trans (hw9.below (fun q hq=>by have:=HZ1.out;omega) HBR.out.size))
    have HT9:Hid (TurnM (w1.heap.size+1) w1.heap.size (zs.take (j+1)) w9):=Hd (by
     refine⟨(World.cell?_of_block (w:=wr) (a:=⟨w1.heap.size+1,0,none⟩) (hw9.keep _ (Zab HT.out.c) (by show ¬ w1.heap.size+1=w1.heap.size;omega))).trans HT.out.c,_,hm9,fun u=>?_⟩;rw[Ztb HL.out.nodup,HG.out,HTK.out]
     by_cases e:u=z
     ·
      subst e;simp
     ·
      rw[if_neg e];simp[List.mem_append,e])
    clear hm9 hg9 hw9 HL HG HT;go_wp2_with fail;go_roundw
    case rel=>exact⟨j+1,by omega,by go_num,HB9,HT9,HQ2⟩
    case measure=>simp[intOf];omega
   ·
    rw[decide_eq_false hok] at HV;have HV2:=Hd HV;have HF:=Hd (HNINE.out z wr HIN.out hok HBR.out);clear HV hok;go_wp2_with fail;refine HV2.out.mono ?_;rintro x w' ⟨rfl,rfl⟩;go_wp2_with fail;exact HF.out
  ·
   obtain rfl:j=zs.length:=by omega
   have hjz:¬ (zs.length:Int)<(zs.length:Int):=by omega
   have HO:=Hd (HOV.out wr HBR.out (by have:=HT.out;rwa [List.take_length] at this) HQ.out);clear HT HQ;go_wp2_with fail;refine HO.out.mono ?_;rintro x w' ⟨p,q,rfl,hp⟩;have HF:=Hd hp;clear hp HO;go_wp2_with fail;exact HF.out
end
open Go.RowKit
theorem enters_next1 (args:Array Value) (w:World):(callFunc 142 args).run Tryz.prog w=.ok (.enter 142 args) w:=enters_of Tryz.func142 (by kernel_rfl) rfl args w
def turnF (v:Int) (F:BF):BF:=if 0<=v then compF (sigF [v]) F else F
def nextF (kind v:Int) (P Q F:BF):BF:=if kind=0 then orF Q (andF P (turnF v F)) else if kind=1 then andF P (orF Q (turnF v F)) else Zc6 (turnF v F) Q P
def NxB (bm bs bf bg mb:Nat) (kind v kf kg:Int):World->Own->Prop:=fun W o=>BoxA bm 0 (.pointer (some ⟨mb,0,none⟩)) W o/\BoxA bs 0 (.int .i64 kind) W o/\BoxA bs 3 (.int .i64 v) W o/\BoxA bf 0 (.int .i64 kf) W o/\BoxA bg 0 (.int .i64 kg) W o
theorem NxB.keepB {bm bs bf bg mb:Nat} {kind v kf kg:Int}:Zdy (NxB bm bs bf bg mb kind v kf kg):=BoxA.keep.and (BoxA.keep.and (BoxA.keep.and (BoxA.keep.and BoxA.keep)))
theorem NxB.low {bm bs bf bg mb base:Nat} {kind v kf kg:Int} (h:bm<base/\bs<base/\bf<base/\bg<base):LowB base (NxB bm bs bf bg mb kind v kf kg):=fun W W' o hB hk _=>by
 have key:∀ {b k:Nat} {u:Value},b<base->BoxA b k u W o->BoxA b k u W' o:=fun hb hx=>⟨(World.cell?_of_block (w:=W) (hk _ hb)).trans hx.1,hx.2⟩
 exact⟨key h.1 hB.1,key h.2.1 hB.2.1,key h.2.1 hB.2.2.1,key h.2.2.1 hB.2.2.2.1,key h.2.2.2 hB.2.2.2.2⟩
section
variable {K:Law} {n room L:Nat} {w0 w wb W:World} {mb:Nat} {fs:List (Int×BF)} {nx:Int} {o0:Own} {ws0:List Ev} {C:Nat->Prop} {B:World->Own->Prop} {kind v kf kg:Int} {P Q:BF}
theorem FxS.flip1 (hK:Zbu K) (hB:Zdy B) (h:FxS K n room w0 mb ws0 C o0 wb B fs nx W) {k v:Int} {F:BF} (hk:(k,F)∈fs) (hv:0<=v/\v<(n:Int)) (hn:nx<=549755813888) (hr:fs.length*2^n+(2^n-1)*(2^n+1)<=room) {T:World} (hT:T=W.alloc (.cells #[.int .i64 v] 3)) :
 Calls Tryz.prog 143 #[.pointer (some ⟨mb,0,none⟩),.int .i64 k,.slice (some ⟨W.heap.size,0,none⟩) 1 1] T fun x w'=>x=.returned (.tuple #[.int .i64 nx,.int .i64 0])/\FxS K n room w0 mb ws0 C o0 wb B (fs++[(nx,compF (sigF [v]) F)]) (nx+1) w':=by
 subst hT;have hb:=Zaf W (.cells #[.int .i64 v] 3);obtain⟨o,m,V,q1,q2,q3,q4⟩:=h;have hc:=ChgX.of_below hb o NoB;refine(subFlip_any (c:=1) (zs:=[v]) hK (q3.below hb) hk (Zgd W [v] (by simp)) q2 hn hr).mono ?_;rintro x w' ⟨hx,_⟩;obtain⟨r1,o',m',V',r2,r3,r4⟩:=hx (by simpa using hv);exact⟨r1,o',m',V',(q1.trans hc NoB.sub).trans r2 NoB.sub,r3,r4,hB _ _ _ _ q4 (hc.trans r2 NoB.sub)⟩
theorem next_f (hK:Zbu K) {bm bs bf bg:Nat} (hv:v<(n:Int)) (hr:(L+4)*2^n+(2^n-1)*(2^n+1)<=room) :
 FunC K n room w0 mb ws0 L C (fun _=>NxB bm bs bf bg mb kind v kf kg) [(kf,P),(kg,Q)] 142 #[.pointer (some ⟨bm,0,none⟩),.pointer (some ⟨bs,0,none⟩),.pointer (some ⟨bf,0,none⟩),.pointer (some ⟨bg,0,none⟩)] (nextF kind v P Q) (fun _=>0) 5:=by
 refine⟨enters_next1,fun _=>NxB.keepB,by omega,fun j _ o0 wb W fs nx h F hst hb hbs hk hn hl=>?_⟩;have hP:(kf,P)∈fs:=hbs _ (by simp);have hQ:(kg,Q)∈fs:=hbs _ (by simp);have HB2:=Hd hb;have HK:=Hd hK;have HMP:=Hd (show (kf,P)∈fs/\(kg,Q)∈fs/\(h,F)∈fs from ⟨hP,hQ,hk⟩);have HRM:Hid (∀ l,l<=L+4->l*2^n<=room):=Hd fun l hl=>Nat.le_trans (Nat.le_trans (Nat.mul_le_mul_right _ hl) (Nat.le_add_right _ _)) hr
 have HRF:Hid (fs.length*2^n+(2^n-1)*(2^n+1)<=room):=Hd (Nat.le_trans (Nat.add_le_add_right (Nat.mul_le_mul_right _ (by omega)) _) hr);have HLL:=Hd hl;have HC1:=Hd (hst.copy hK NxB.keepB (by omega) hk);obtain⟨PP,hPP⟩:∃ PP:Ending->World->Prop,PP=fun e w'=>∃ p nx',e=.returned (.tuple #[.int .i64 p,.int .i64 0])/\nx<=nx'/\nx'<=nx+5 /\
  ((0:Int)=0->FxS K n room w0 mb ws0 C o0 wb (NxB bm bs bf bg mb kind v kf kg) (fs++[(p,nextF kind v P Q F)]) nx' w')/\((0:Int)≠0->FxS K n room w0 mb ws0 C o0 wb (NxB bm bs bf bg mb kind v kf kg) fs nx' w'):=⟨_,rfl⟩
 have HPP:Hid (∀ p nx' w',nx<=nx'->nx'<=nx+5->FxS K n room w0 mb ws0 C o0 wb (NxB bm bs bf bg mb kind v kf kg) (fs++[(p,nextF kind v P Q F)]) nx' w'->PP (.returned (.tuple #[.int .i64 p,.int .i64 0])) w'):=Hd fun p nx' w' h1 h2 h3=>by rw[hPP];exact⟨p,nx',rfl,h1,h2,fun _=>h3,fun e=>(e rfl).elim⟩
 have HCL:Hid (∀ fs' nx' W',FxS K n room w0 mb ws0 C o0 wb (NxB bm bs bf bg mb kind v kf kg) fs' nx' W'->W'.cell? ⟨bm,0,none⟩=some (.pointer (some ⟨mb,0,none⟩))/\W'.cell? ⟨bs,0,none⟩=some (.int .i64 kind)/\W'.cell? ⟨bs,3,none⟩=some (.int .i64 v)/\W'.cell? ⟨bf,0,none⟩=some (.int .i64 kf)/\W'.cell? ⟨bg,0,none⟩=some (.int .i64 kg)):=Hd fun fs' nx' W' ⟨_,_,_,_,_,_,q1,q2,q3,q4,q5⟩=>⟨q1.1,q2.1,q3.1,q4.1,q5.1⟩
 obtain⟨a1,a2,a3,a4,a5⟩:=HCL.out _ _ _ hst
 show Calls _ _ _ _ _
 rw[<- hPP];clear hPP hst hb hbs hk hP hQ hK hr hl
 show Calls _ _ #[_,_,_,_,_] _ _
 go_enter Tryz.func142,Tryz.ntmps142
 go_wp2_with fail;refine HC1.out.mono ?_;rintro x w1 ⟨rfl,h1⟩;clear a1 a2 a3 a4 a5 HC1;obtain⟨a1,a2,a3,a4,a5⟩:=HCL.out _ _ _ h1
 by_cases hv0:v>=0
 ·
  have HS:=Hd h1;clear h1;have HC:=Hd (FxS.drop1 HK.out NxB.keepB (r:=[]) HB2.out HS.out (by omega) rfl);clear HS;go_wp2_with fail;refine HC.out.mono ?_;rintro x w2 ⟨rfl,hs⟩;clear HC a1 a2 a3 a4 a5;rw[List.append_nil] at hs;obtain⟨a1,a2,a3,a4,a5⟩:=HCL.out _ _ _ hs;have HS:=Hd hs;clear hs;have HC:=Hd (FxS.flip1 HK.out NxB.keepB HS.out (k:=h) (v:=v) (F:=F) HMP.out.2.2 ⟨hv0,hv⟩ (by omega) HRF.out rfl);clear HS;go_wp2_with fail;refine HC.out.mono ?_;rintro x wf ⟨rfl,hs⟩;clear HC a1 a2 a3 a4 a5;rw[show compF (sigF [v]) F=turnF v F from (if_pos hv0).symm] at hs;obtain⟨a1,a2,a3,a4,a5⟩:=HCL.out _ _ _ hs;have HS:=Hd hs;clear hs
  by_cases k0:kind=0
  ·
   subst k0;have HC:=Hd (FxS.and2 HK.out NxB.keepB HS.out (k1:=kf) (k2:=(nx+1)) (F1:=P) (F2:=turnF v F) (List.mem_append_left _ HMP.out.1) (by simp) (by omega) (HRM.out _ (by have:=HLL.out;simp;omega)) rfl);clear HS;go_wp2_with fail;refine HC.out.mono ?_;rintro x w3 ⟨rfl,hs⟩;clear HC a1 a2 a3 a4 a5;obtain⟨a1,a2,a3,a4,a5⟩:=HCL.out _ _ _ hs;have HS:=Hd hs;clear hs;have HC:=Hd (FxS.or2 HK.out NxB.keepB HS.out (k1:=kg) (k2:=(nx+1+1)) (F1:=Q) (F2:=andF P (turnF v F)) (List.mem_append_left _ (List.mem_append_left _ HMP.out.2.1)) (by simp) (by omega) (HRM.out _ (by have:=HLL.out;simp;omega)) rfl);clear HS;go_wp2_with fail;refine HC.out.mono ?_;rintro x w4 ⟨rfl,hs⟩;clear HC a1 a2 a3 a4 a5;rw[List.append_assoc] at hs;obtain⟨a1,a2,a3,a4,a5⟩:=HCL.out _ _ _ hs;have HS:=Hd hs;clear hs;have HC:=Hd (FxS.drop1 HK.out NxB.keepB (HB2.out.app _) HS.out (by omega) rfl);clear HS;go_wp2_with fail;refine HC.out.mono ?_;rintro x w5 ⟨rfl,hs⟩;clear HC a1 a2 a3 a4 a5;rw[List.append_assoc] at hs;obtain⟨a1,a2,a3,a4,a5⟩:=HCL.out _ _ _ hs;have HS:=Hd hs;clear hs;have HC:=Hd (FxS.drop1 HK.out NxB.keepB HB2.out HS.out (by omega) rfl);clear HS;go_wp2_with fail;refine HC.out.mono ?_;rintro x w6 ⟨rfl,hs⟩;clear HC a1 a2 a3 a4 a5;obtain⟨a1,a2,a3,a4,a5⟩:=HCL.out _ _ _ hs;have HS:=Hd hs;clear hs;have HF:=Hd (HPP.out ((nx+1+1)+1) ((nx+1+1)+1+1) w6 (by omega) (by omega) (by rw[show nextF 0 v P Q F=orF Q (andF P (turnF v F)) from if_pos rfl];exact HS.out));clear HS HPP a1 a2 a3 a4 a5;go_wp2_with fail;exact HF.out
  by_cases k1:kind=1
  ·
   subst k1;have k0z:((1:Int) == 0)=false:=rfl;have HC:=Hd (FxS.or2 HK.out NxB.keepB HS.out (k1:=kg) (k2:=(nx+1)) (F1:=Q) (F2:=turnF v F) (List.mem_append_left _ HMP.out.2.1) (by simp) (by omega) (HRM.out _ (by have:=HLL.out;simp;omega)) rfl);clear HS;go_wp2_with fail;refine HC.out.mono ?_;rintro x w3 ⟨rfl,hs⟩;clear HC a1 a2 a3 a4 a5;obtain⟨a1,a2,a3,a4,a5⟩:=HCL.out _ _ _ hs;have HS:=Hd hs;clear hs;have HC:=Hd (FxS.and2 HK.out NxB.keepB HS.out (k1:=kf) (k2:=(nx+1+1)) (F1:=P) (F2:=orF Q (turnF v F)) (List.mem_append_left _ (List.mem_append_left _ HMP.out.1)) (by simp) (by omega) (HRM.out _ (by have:=HLL.out;simp;omega)) rfl);clear HS;go_wp2_with fail;refine HC.out.mono ?_;rintro x w4 ⟨rfl,hs⟩;clear HC a1 a2 a3 a4 a5;rw[List.append_assoc] at hs;obtain⟨a1,a2,a3,a4,a5⟩:=HCL.out _ _ _ hs;have HS:=Hd hs;clear hs;have HC:=Hd (FxS.drop1 HK.out NxB.keepB (HB2.out.app _) HS.out (by omega) rfl);clear HS;go_wp2_with fail;refine HC.out.mono ?_;rintro x w5 ⟨rfl,hs⟩;clear HC a1 a2 a3 a4 a5;rw[List.append_assoc] at hs;obtain⟨a1,a2,a3,a4,a5⟩:=HCL.out _ _ _ hs;have HS:=Hd hs;clear hs;have HC:=Hd (FxS.drop1 HK.out NxB.keepB HB2.out HS.out (by omega) rfl);clear HS;go_wp2_with fail;refine HC.out.mono ?_;rintro x w6 ⟨rfl,hs⟩;clear HC a1 a2 a3 a4 a5;obtain⟨a1,a2,a3,a4,a5⟩:=HCL.out _ _ _ hs;have HS:=Hd hs;clear hs;have HF:=Hd (HPP.out ((nx+1+1)+1) ((nx+1+1)+1+1) w6 (by omega) (by omega) (by rw[show nextF 1 v P Q F=andF P (orF Q (turnF v F)) by unfold nextF;rw[if_neg (by omega),if_pos rfl]];exact HS.out));clear HS HPP a1 a2 a3 a4 a5;go_wp2_with fail;exact HF.out
  have k0z:(kind == 0)=false:=by simpa using k0
  have k1z:(kind == 1)=false:=by simpa using k1
  have HKN:=Hd (show kind≠0/\kind≠1 from ⟨k0,k1⟩);clear k0 k1;have HC:=Hd (FxS.ite HK.out NxB.keepB HS.out (k1:=(nx+1)) (k2:=kg) (k3:=kf) (F1:=turnF v F) (F2:=Q) (F3:=P) (by simp) (List.mem_append_left _ HMP.out.2.1) (List.mem_append_left _ HMP.out.1) (by omega) (HRM.out _ (by have:=HLL.out;simp;omega)));clear HS;go_wp2_with fail;refine HC.out.mono ?_;rintro x w4 ⟨rfl,hs⟩;clear HC a1 a2 a3 a4 a5;rw[List.append_assoc] at hs;obtain⟨a1,a2,a3,a4,a5⟩:=HCL.out _ _ _ hs;have HS:=Hd hs;clear hs;have HC:=Hd (FxS.drop1 HK.out NxB.keepB HB2.out HS.out (by omega) rfl);clear HS;go_wp2_with fail;refine HC.out.mono ?_;rintro x w6 ⟨rfl,hs⟩;clear HC a1 a2 a3 a4 a5;obtain⟨a1,a2,a3,a4,a5⟩:=HCL.out _ _ _ hs;have HS:=Hd hs;clear hs;have HF:=Hd (HPP.out (nx+1+1) ((nx+1+1)+1) w6 (by omega) (by omega) (by rw[show nextF kind v P Q F=Zc6 (turnF v F) Q P by unfold nextF;rw[if_neg HKN.out.1,if_neg HKN.out.2]];exact HS.out));clear HS HPP a1 a2 a3 a4 a5;go_wp2_with fail;exact HF.out
 ·
  rw[show F=turnF v F from (if_neg (by omega)).symm] at h1;have HS:=Hd h1;have hvn:¬ 0<=v:=by omega
  clear h1 hv
  by_cases k0:kind=0
  ·
   subst k0;have HC:=Hd (FxS.and2 HK.out NxB.keepB HS.out (k1:=kf) (k2:=nx) (F1:=P) (F2:=turnF v F) (List.mem_append_left _ HMP.out.1) (by simp) (by omega) (HRM.out _ (by have:=HLL.out;simp;omega)) rfl);clear HS;go_wp2_with fail;refine HC.out.mono ?_;rintro x w3 ⟨rfl,hs⟩;clear HC a1 a2 a3 a4 a5;obtain⟨a1,a2,a3,a4,a5⟩:=HCL.out _ _ _ hs;have HS:=Hd hs;clear hs;have HC:=Hd (FxS.or2 HK.out NxB.keepB HS.out (k1:=kg) (k2:=(nx+1)) (F1:=Q) (F2:=andF P (turnF v F)) (List.mem_append_left _ (List.mem_append_left _ HMP.out.2.1)) (by simp) (by omega) (HRM.out _ (by have:=HLL.out;simp;omega)) rfl);clear HS;go_wp2_with fail;refine HC.out.mono ?_;rintro x w4 ⟨rfl,hs⟩;clear HC a1 a2 a3 a4 a5;rw[List.append_assoc] at hs;obtain⟨a1,a2,a3,a4,a5⟩:=HCL.out _ _ _ hs;have HS:=Hd hs;clear hs;have HC:=Hd (FxS.drop1 HK.out NxB.keepB (HB2.out.app _) HS.out (by omega) rfl);clear HS;go_wp2_with fail;refine HC.out.mono ?_;rintro x w5 ⟨rfl,hs⟩;clear HC a1 a2 a3 a4 a5;rw[List.append_assoc] at hs;obtain⟨a1,a2,a3,a4,a5⟩:=HCL.out _ _ _ hs;have HS:=Hd hs;clear hs;have HC:=Hd (FxS.drop1 HK.out NxB.keepB HB2.out HS.out (by omega) rfl);clear HS;go_wp2_with fail;refine HC.out.mono ?_;rintro x w6 ⟨rfl,hs⟩;clear HC a1 a2 a3 a4 a5;obtain⟨a1,a2,a3,a4,a5⟩:=HCL.out _ _ _ hs;have HS:=Hd hs;clear hs;have HF:=Hd (HPP.out ((nx+1)+1) ((nx+1)+1+1) w6 (by omega) (by omega) (by rw[show nextF 0 v P Q F=orF Q (andF P (turnF v F)) from if_pos rfl];exact HS.out));clear HS HPP a1 a2 a3 a4 a5;go_wp2_with fail;exact HF.out
  by_cases k1:kind=1
  ·
   subst k1;have k0z:((1:Int) == 0)=false:=rfl;have HC:=Hd (FxS.or2 HK.out NxB.keepB HS.out (k1:=kg) (k2:=nx) (F1:=Q) (F2:=turnF v F) (List.mem_append_left _ HMP.out.2.1) (by simp) (by omega) (HRM.out _ (by have:=HLL.out;simp;omega)) rfl);clear HS;go_wp2_with fail;refine HC.out.mono ?_;rintro x w3 ⟨rfl,hs⟩;clear HC a1 a2 a3 a4 a5;obtain⟨a1,a2,a3,a4,a5⟩:=HCL.out _ _ _ hs;have HS:=Hd hs;clear hs;have HC:=Hd (FxS.and2 HK.out NxB.keepB HS.out (k1:=kf) (k2:=(nx+1)) (F1:=P) (F2:=orF Q (turnF v F)) (List.mem_append_left _ (List.mem_append_left _ HMP.out.1)) (by simp) (by omega) (HRM.out _ (by have:=HLL.out;simp;omega)) rfl);clear HS;go_wp2_with fail;refine HC.out.mono ?_;rintro x w4 ⟨rfl,hs⟩;clear HC a1 a2 a3 a4 a5;rw[List.append_assoc] at hs;obtain⟨a1,a2,a3,a4,a5⟩:=HCL.out _ _ _ hs;have HS:=Hd hs;clear hs;have HC:=Hd (FxS.drop1 HK.out NxB.keepB (HB2.out.app _) HS.out (by omega) rfl);clear HS;go_wp2_with fail;refine HC.out.mono ?_;rintro x w5 ⟨rfl,hs⟩;clear HC a1 a2 a3 a4 a5;rw[List.append_assoc] at hs;obtain⟨a1,a2,a3,a4,a5⟩:=HCL.out _ _ _ hs;have HS:=Hd hs;clear hs;have HC:=Hd (FxS.drop1 HK.out NxB.keepB HB2.out HS.out (by omega) rfl);clear HS;go_wp2_with fail;refine HC.out.mono ?_;rintro x w6 ⟨rfl,hs⟩;clear HC a1 a2 a3 a4 a5;obtain⟨a1,a2,a3,a4,a5⟩:=HCL.out _ _ _ hs;have HS:=Hd hs;clear hs;have HF:=Hd (HPP.out ((nx+1)+1) ((nx+1)+1+1) w6 (by omega) (by omega) (by rw[show nextF 1 v P Q F=andF P (orF Q (turnF v F)) by unfold nextF;rw[if_neg (by omega),if_pos rfl]];exact HS.out));clear HS HPP a1 a2 a3 a4 a5;go_wp2_with fail;exact HF.out
  have k0z:(kind == 0)=false:=by simpa using k0
  have k1z:(kind == 1)=false:=by simpa using k1
  have HKN:=Hd (show kind≠0/\kind≠1 from ⟨k0,k1⟩);clear k0 k1;have HC:=Hd (FxS.ite HK.out NxB.keepB HS.out (k1:=nx) (k2:=kg) (k3:=kf) (F1:=turnF v F) (F2:=Q) (F3:=P) (by simp) (List.mem_append_left _ HMP.out.2.1) (List.mem_append_left _ HMP.out.1) (by omega) (HRM.out _ (by have:=HLL.out;simp;omega)));clear HS;go_wp2_with fail;refine HC.out.mono ?_;rintro x w4 ⟨rfl,hs⟩;clear HC a1 a2 a3 a4 a5;rw[List.append_assoc] at hs;obtain⟨a1,a2,a3,a4,a5⟩:=HCL.out _ _ _ hs;have HS:=Hd hs;clear hs;have HC:=Hd (FxS.drop1 HK.out NxB.keepB HB2.out HS.out (by omega) rfl);clear HS;go_wp2_with fail;refine HC.out.mono ?_;rintro x w6 ⟨rfl,hs⟩;clear HC a1 a2 a3 a4 a5;obtain⟨a1,a2,a3,a4,a5⟩:=HCL.out _ _ _ hs;have HS:=Hd hs;clear hs;have HF:=Hd (HPP.out (nx+1) ((nx+1)+1) w6 (by omega) (by omega) (by rw[show nextF kind v P Q F=Zc6 (turnF v F) Q P by unfold nextF;rw[if_neg HKN.out.1,if_neg HKN.out.2]];exact HS.out));clear HS HPP a1 a2 a3 a4 a5;go_wp2_with fail;exact HF.out
end
open Go.RowKit
def leF (F G:BF):Prop:=∀ ρ,F ρ=true->G ρ=true
def MonF (Φ:BF->BF):Prop:=∀ F G,leF F G->leF (Φ F) (Φ G)
theorem orF_at (F G:BF) (ρ:Nat->Bool):orF F G ρ=(F ρ||G ρ):=by
 show iteB (F ρ) true (G ρ)=_
 cases F ρ<;>rfl
theorem andF_at (F G:BF) (ρ:Nat->Bool):andF F G ρ=(F ρ&&G ρ):=by
 show iteB (F ρ) (G ρ) false=_
 cases F ρ<;>rfl
theorem diffF_at (F G:BF) (ρ:Nat->Bool):Zm4 F G ρ=(F ρ && !G ρ):=by
 show iteB (F ρ) (!G ρ) false=_
 cases F ρ<;>rfl
theorem turnF_mon (v:Int):MonF (turnF v):=fun F G h ρ=>by
 unfold turnF;split
 ·
  exact h _
 ·
  exact h ρ
theorem next0_mon (v:Int) (P Q:BF):MonF (nextF 0 v P Q):=fun F G h ρ hf=>by
 have hn:∀ H,nextF 0 v P Q H=orF Q (andF P (turnF v H)):=fun H=>if_pos rfl
 rw[hn,orF_at,andF_at] at hf ⊢;cases hQ:Q ρ with
 | true=>rfl
 | false =>
   rw[hQ,Bool.false_or,Bool.and_eq_true] at hf;rw[Bool.false_or,hf.1,turnF_mon v F G h ρ hf.2];rfl
section
variable {n:Nat} {Φ:BF->BF} {F Q:BF}
theorem iter_up (hm:MonF Φ) (h0:leF F (Φ F)):∀ k,leF (Zez Φ F k) (Zez Φ F (k+1))
 | 0=>h0
 | k+1=>hm _ _ (iter_up hm h0 k)
theorem iter_size (hm:MonF Φ) (h0:leF F (Φ F)) (hd:∀ k,DepF n (Zez Φ F k)):∀ {k:Nat},OnF Φ F k->k<=Zyw n (Zez Φ F k)
 | 0,_=>Nat.zero_le _
 | k+1,h=>by
   have ih:=iter_size hm h0 hd (k:=k) fun i hi=>h i (by omega)
   have hne:=h k (by omega);have hup:=iter_up hm h0 k
   obtain⟨ρ,h1,h2⟩:∃ ρ,Zez Φ F (k+1) ρ=true/\Zez Φ F k ρ=false:=Classical.byContradiction fun hc=>hne (funext fun ρ=>by
    cases hr:Zez Φ F k ρ with
    | true=>exact hup ρ hr
    | false=>cases hs:Zez Φ F (k+1) ρ with
      | false=>rfl
      | true=>exact(hc ⟨ρ,hs,hr⟩).elim)
   obtain⟨i,hi,hb⟩:=Zxt n ρ;have e:∀ v,v<n->ρ v=Zcb (Zcw i n) v:=fun v hv=>by rw[Zq6,hb v hv];simp[hv]
   rw[hd (k+1) ρ _ e] at h1;rw[hd k ρ _ e] at h2;have:=Zmz (l:=List.range (2^n)) (p:=fun i=>Zez Φ F k (Zcb (Zcw i n))) (q:=fun i=>Zez Φ F (k+1) (Zcb (Zcw i n)))
    (fun x hx=>hup _ hx) ⟨i,List.mem_range.2 hi,h1,h2⟩
   unfold Zyw at ih ⊢;omega
theorem iter_le (hm:MonF Φ) (h0:leF F (Φ F)) (hd:∀ k,DepF n (Zez Φ F k)) {k:Nat} (h:OnF Φ F k):k<=2^n:=Nat.le_trans (iter_size hm h0 hd h) (Zwo _ _)
theorem until_mon (hm:MonF Φ):MonF fun F=>orF Q (Φ F):=fun F G h ρ hf=>by
 show orF Q (Φ G) ρ=true
 have hf:orF Q (Φ F) ρ=true:=hf;rw[orF_at] at hf ⊢;cases hQ:Q ρ with
 | true=>rfl
 | false=>rw[hQ,Bool.false_or] at hf;rw[Bool.false_or];exact hm _ _ h ρ hf
theorem until_up:leF Q (orF Q (Φ Q)):=fun ρ h=>by rw[orF_at,h];rfl
theorem all_iter (hm:MonF Φ):∀ k,allF Φ Q k=Zez (fun F=>orF Q (Φ F)) Q k
 | 0=>rfl
 | k+1=>by
   have ih:=all_iter hm k;have hup:=iter_up (until_mon (Q:=Q) hm) until_up k;have hQ:leF Q (Zez (fun F=>orF Q (Φ F)) Q k):=by
    clear ih hup
    induction k with
    | zero=>exact fun _ h=>h
    | succ k _=>exact fun ρ h=>by show orF Q _ ρ=true;rw[orF_at,h];rfl
   funext ρ;rw[Zsi]
   show (allF Φ Q k ρ||Zm4 (Φ (allF Φ Q k)) (allF Φ Q k) ρ)=orF Q (Φ (Zez (fun F=>orF Q (Φ F)) Q k)) ρ
   rw[ih,diffF_at,orF_at];have h1:=hup ρ;have h2:=hQ ρ;have h3:Zez (fun F=>orF Q (Φ F)) Q (k+1) ρ=(Q ρ||Φ (Zez (fun F=>orF Q (Φ F)) Q k) ρ):=orF_at _ _ _;rw[h3] at h1;revert h1 h2;cases Zez (fun F=>orF Q (Φ F)) Q k ρ<;>cases Q ρ<;>cases Φ (Zez (fun F=>orF Q (Φ F)) Q k) ρ<;>simp
theorem whole_end (hm:MonF Φ) {j:Nat} (h:Zi6 Φ Q j):EndF (fun F=>orF Q (Φ F)) Q j:=by
 refine⟨fun i hi e=>?_,?_⟩
 ·
  rw[<- all_iter hm,<- all_iter hm] at e;refine h.1 i hi (funext fun ρ=>?_);have e1:=congrFun e ρ;rw[Zsi] at e1;cases hr:Zb9 Φ Q (i+1) ρ with
  | false=>rfl
  | true=>rw[hr,Zwd _ _ _ _ hr] at e1;cases e1
 ·
  rw[<- all_iter hm,<- all_iter hm];funext ρ;rw[Zsi,h.2,Bool.or_false]
theorem ring_in (Φ:BF->BF) (Q:BF) {i:Nat} {ρ:Nat->Bool} (h:Zb9 Φ Q i ρ=true):∀ k,i<=k->allF Φ Q k ρ=true
 | 0,hi=>by
   obtain rfl:i=0:=by omega
   exact h
 | k+1,hi=>by
   rw[Zsi];rcases Nat.lt_or_ge k i with c|c
   ·
    obtain rfl:i=k+1:=by omega
    rw[h,Bool.or_true]
   ·
    rw[ring_in Φ Q h k c,Bool.true_or]
theorem rings_apart (Φ:BF->BF) (Q:BF) {i j:Nat} (h:i<j) (ρ:Nat->Bool):¬ (Zb9 Φ Q j ρ=true/\Zb9 Φ Q i ρ=true):=fun⟨h1,h2⟩=>by
 obtain⟨k,rfl⟩:∃ k,j=k+1:=⟨j-1,by omega⟩;have:=Zwd _ _ _ _ h1;rw[ring_in Φ Q h2 k (by omega)] at this;cases this
theorem rings_fold (Φ:BF->BF) (Q:BF):∀ k,Zim orF (Zi9 1) ((List.range (k+1)).map (Zb9 Φ Q))=allF Φ Q k
 | 0=>by
   funext ρ
   show orF (Zi9 1) (Zb9 Φ Q 0) ρ=Q ρ
   rw[orF_at];rfl
 | k+1=>by
   have ih:=rings_fold Φ Q k;rw[List.range_succ,List.map_append];unfold Zim at ih ⊢;rw[List.foldl_append,ih];rfl
end
open Go.RowKit
theorem LawF.set {W W':World} {o:Own} {v:Value} {bs:List Bool} {b:Nat} {cur:Array Value} {T:TypeId} {fr:Nat×Nat} (h:LawF W o v bs) (hx:W.heap[b]?=some (.cells cur T fr)) (hT:T≠4) (hw:Wr (· = b) W W'):LawF W' o v bs:=by
 have hne:∀ k,v.ownBlock=some k->¬ k=b:=fun k hk e=>by
  obtain⟨_,_,c,h3⟩:=h.no k hk;rw[e,hx] at h3;injection h3 with h3
  injection h3 with _ h4
  exact hT h4
 exact⟨h.is.same fun k hk=>hw.keep k (h.no k hk).1 (hne k hk),fun k hk=>by
  obtain⟨h1,h2,c,h3⟩:=h.no k hk;exact⟨Nat.lt_of_lt_of_le h1 hw.size,h2,c,(hw.keep k h1 (hne k hk)).trans h3⟩⟩
theorem results_cell2 {P:Program} {fn:Func} {p x y:Tmp} {ty:TypeId} (h:fn.results=#[.cell p ty,.tmp x,.tmp y]) (tmps:Array Value) (w:World) (g:Nat) (t:TypeId) (cs:Array Value) (fr:Nat×Nat) (d:TypeDesc)
 (hp:tmps.getD p undef=.pointer (some ⟨g,0,none⟩)) (hg:w.heap[g]?=some (.cells cs t fr))
 (hu:P.underlying ty=some d) (hd:(match d with|.struct _|.array _ _=>true|_=>false)=true) (hi:(P.info? ty).map (·.size)=some cs.size) :
 (results fn tmps).run P w=.ok (.tuple #[.agg cs,tmps.getD x undef,tmps.getD y undef]) w:=by
 have hp':tmps[p]?.getD undef=.pointer (some ⟨g,0,none⟩):=by simpa using hp
 simp[results,h,hp',asAddr,run_loadVar_row w g t ty cs fr d hg hu hd hi]
section
variable {K:Law} {n room:Nat} {Od:List Nat->Prop} {w0 W:World} {mb:Nat} {fs hs:List (Int×BF)} {nx:Int} {Wt:List Ev->Int->Prop} {o:Own} {m:ManD} {V:Nat->BF} {vl vx:Value}
theorem shape_any (h:LawT K n Od room w0 mb fs nx Wt hs hs W o m V vl vx) (hsub:∀ p∈hs,p∈fs) (hn:n<=16) (hl:hs.length<=100) (kind p q v:Int) (a1 a2 a3:Value) :
 Calls Tryz.prog 54 #[.agg #[.int .i64 (n:Nat),a1,a2,a3],vl,vx,.int .i64 kind,.int .i64 p,.int .i64 q,.int .i64 v] W fun x w'=>∃ a F r b G s v',x=.returned (.tuple #[.agg #[.int .i64 kind,r,s,.int .i64 v'],.int .i64 a,.int .i64 b])/\(v'=if v>=(n:Int) then -1 else v)/\(a,F)∈fs/\(b,G)∈fs/\LawF w' o r (tabB n F)/\LawF w' o s (tabB n G)/\Below W.heap.size W w':=by
 obtain⟨w1,hw1⟩:∃ w,w=W.alloc (.cells #[.int .i64 (n:Nat),a1,a2,a3] 39):=⟨_,rfl⟩;obtain⟨w2,hw2⟩:∃ w,w=w1.alloc (.cells #[.int .i64 0,.slice none 0 0,.slice none 0 0,.int .i64 0] 76):=⟨_,rfl⟩;have hb1:Below W.heap.size W w1:=by rw[hw1];exact Zaf _ _
 have hb2:Below w1.heap.size w1 w2:=by rw[hw2];exact Zaf _ _
 have hb:=hb1.trans (hb2.mono hb1.size);have hz1:w1.heap.size=W.heap.size+1:=by rw[hw1];simp
 have c0:w2.cell? ⟨W.heap.size,0,none⟩=some (.int .i64 (n:Nat)):=by
  rw[hb2.cell (p:=⟨W.heap.size,0,none⟩) (by rw[hz1];simp),hw1,cell_of_row _ _ 0 _ _ _ (heap_alloc_new W _)];rfl
 have hx:w2.heap[W.heap.size+1]?=some (.cells #[.int .i64 0,.slice none 0 0,.slice none 0 0,.int .i64 0] 76 (0,0)):=by
  rw[hw2,<- hz1];exact heap_alloc_new _ _
 have HW2:Hid (_=w2):=Hd hw2.symm;rw[hw1] at HW2;have HO:=Hd (one_law (h.below hb) hsub hn hl p);have HL:=Hd (h.below hb);have HB:=Hd hb;have HX:=Hd hx;have HSUB:=Hd hsub;clear h hw1 hw2 hb hb1 hb2 hz1 hx hsub
 go_enter Tryz.func54,Tryz.ntmps54
 go_upto_region 1 with fail;rw[HW2.out];go_wp2_with fail;refine HO.out.mono ?_;rintro x w3 ⟨a,F,r,rfl,hF,hr,hb3⟩;obtain⟨ta,tc,et,-⟩:=hr.tab;subst et;have HA:=Hd (show (a,F)∈two++[]++fs\/(a,F)∈fs from .inr hF);have HR:=Hd hr;have HB3:=Hd hb3;have HO2:=Hd (one_law (HL.out.below hb3) HSUB.out hn hl q);have d0:=(hb3.cell (p:=⟨W.heap.size,0,none⟩) (Zab c0)).trans c0;have HF':=Hd hF;clear hr hb3 HO c0 HA hF;go_wp2_with fail;refine HO2.out.mono ?_;rintro x w4 ⟨b,G,s,rfl,hG,hs',hb4⟩;obtain⟨ua,uc,eu,-⟩:=hs'.tab;subst eu;have hx4:w4.heap[W.heap.size+1]?=some (.cells #[.int .i64 0,.slice none 0 0,.slice none 0 0,.int .i64 0] 76 (0,0)):=(hb4.block _ (by have:=HB3.out.size;have:=(Array.getElem?_eq_some_iff.1 HX.out).1;omega)).trans ((HB3.out.block _ (Array.getElem?_eq_some_iff.1 HX.out).1).trans HX.out);have e0:=(hb4.cell (p:=⟨W.heap.size,0,none⟩) (Zab d0)).trans d0;obtain⟨x0,x1,x2,x3,xf⟩:=cells4 hx4;have HX4:=Hd hx4;have hlw4:W.heap.size+1<w4.heap.size:=(Array.getElem?_eq_some_iff.1 hx4).1;have HEND:Hid (∀ w5,Wr (· = W.heap.size+1) w4 w5->Below W.heap.size w4 w5->(b,G)∈fs/\LawF w5 o (.slice ta (2^n) tc) (tabB n F)/\LawF w5 o (.slice ua (2^n) uc) (tabB n G)/\Below W.heap.size W w5):=Hd fun w5 hw hbe=>by
  have hbl:Below W.heap.size W w4:=HB.out.trans ((HB3.out.trans (hb4.mono HB3.out.size)).mono HB.out.size);have hno:∀ {v:Value} {bs:List Bool},LawF w4 o v bs->LawF w5 o v bs:=fun hf=>hf.set HX4.out (by decide) hw
  exact⟨hG,hno (HR.out.chg (Zcx hb4 o)),hno hs',hbl.trans hbe⟩
 clear hG hs' hb4 hx4 HO2 d0 HR HB HB3 HX HL hlw4
 by_cases hv:v>=(n:Int)
 ·
  go_wp2_with fail;obtain⟨w5,hw5⟩:∃ w,w=(((w4.setCell ⟨W.heap.size+1,0,none⟩ (.int .i64 kind)).setCell ⟨W.heap.size+1,1,none⟩ (.slice ta (2^n) tc)).setCell ⟨W.heap.size+1,2,none⟩ (.slice ua (2^n) uc)).setCell ⟨W.heap.size+1,3,none⟩ (.int .i64 (-1)):=⟨_,rfl⟩;have hx5:w5.heap[W.heap.size+1]?=some (.cells #[.int .i64 kind,.slice ta (2^n) tc,.slice ua (2^n) uc,.int .i64 (-1)] 76 (0,0)):=by
   rw[hw5];exact Zag (Zag (Zag (Zag HX4.out _) _) _) _
  have hend:=HEND.out w5 (by
   rw[hw5];exact((((Wr.refl (· = W.heap.size+1) w4).setCell (p:=⟨W.heap.size+1,0,none⟩) (.inl rfl) _).setCell (p:=⟨W.heap.size+1,1,none⟩) (.inl rfl) _).setCell (p:=⟨W.heap.size+1,2,none⟩) (.inl rfl) _).setCell (p:=⟨W.heap.size+1,3,none⟩) (.inl rfl) _) (by
   rw[hw5];exact((((Below.refl _ _).setCell (by dsimp only;omega) _).setCell (by dsimp only;omega) _).setCell (by dsimp only;omega) _).setCell (by dsimp only;omega) _)
  rw[<- hw5];refine bodyPost_ret (results_cell2 rfl _ _ _ _ _ _ _ rfl hx5 Tryz.underlying76 rfl (by kernel_rfl)) rfl ?_;exact⟨a,F,_,b,G,_,-1,rfl,by first|rfl|exact(if_pos hv).symm,HF'.out,hend⟩
 ·
  go_wp2_with fail;obtain⟨w5,hw5⟩:∃ w,w=(((w4.setCell ⟨W.heap.size+1,0,none⟩ (.int .i64 kind)).setCell ⟨W.heap.size+1,1,none⟩ (.slice ta (2^n) tc)).setCell ⟨W.heap.size+1,2,none⟩ (.slice ua (2^n) uc)).setCell ⟨W.heap.size+1,3,none⟩ (.int .i64 v):=⟨_,rfl⟩;have hx5:w5.heap[W.heap.size+1]?=some (.cells #[.int .i64 kind,.slice ta (2^n) tc,.slice ua (2^n) uc,.int .i64 v] 76 (0,0)):=by
   rw[hw5];exact Zag (Zag (Zag (Zag HX4.out _) _) _) _
  have hend:=HEND.out w5 (by
   rw[hw5];exact((((Wr.refl (· = W.heap.size+1) w4).setCell (p:=⟨W.heap.size+1,0,none⟩) (.inl rfl) _).setCell (p:=⟨W.heap.size+1,1,none⟩) (.inl rfl) _).setCell (p:=⟨W.heap.size+1,2,none⟩) (.inl rfl) _).setCell (p:=⟨W.heap.size+1,3,none⟩) (.inl rfl) _) (by
   rw[hw5];exact((((Below.refl _ _).setCell (by dsimp only;omega) _).setCell (by dsimp only;omega) _).setCell (by dsimp only;omega) _).setCell (by dsimp only;omega) _)
  rw[<- hw5];refine bodyPost_ret (results_cell2 rfl _ _ _ _ _ _ _ rfl hx5 Tryz.underlying76 rfl (by kernel_rfl)) rfl ?_;exact⟨a,F,_,b,G,_,v,rfl,by first|rfl|exact(if_neg (by omega)).symm,HF'.out,hend⟩
end
open Go.RowKit
section
variable {K:Law} {n room:Nat} {w0 wb W:World} {mb:Nat} {fs:List (Int×BF)} {nx:Int} {o0:Own} {ws0:List Ev} {C:Nat->Prop} {B:World->Own->Prop}
theorem next_any (hB:Zdy B) (h:FxS K n room w0 mb ws0 C o0 wb B fs nx W) (kind v kf kg:Int) (r s:Value) :
 Calls Tryz.prog 56 #[.pointer (some ⟨mb,0,none⟩),.agg #[.int .i64 kind,r,s,.int .i64 v],.int .i64 kf,.int .i64 kg] W fun x w'=>∃ bm bs bf bg,x=.returned (.func (.func 142) #[] #[.pointer (some ⟨bm,0,none⟩),.pointer (some ⟨bs,0,none⟩),.pointer (some ⟨bf,0,none⟩),.pointer (some ⟨bg,0,none⟩)]) /\
  (bm<w'.heap.size/\bs<w'.heap.size/\bf<w'.heap.size/\bg<w'.heap.size)/\FxS K n room w0 mb ws0 C o0 wb (fun W o=>B W o/\NxB bm bs bf bg mb kind v kf kg W o) fs nx w':=by
 have hmf:∀ (fn:Fn) (first cap:Array Value) (w:World),(Instr.makeFunc fn first cap).run Tryz.prog w=.ok (.func fn first cap) w:=fun _ _ _ _=>rfl
 obtain⟨t,ht⟩:∃ t,t=W.heap.size:=⟨_,rfl⟩;obtain⟨w1,hw1⟩:∃ w,w=W.alloc (.cells #[.pointer (some ⟨mb,0,none⟩)] 41):=⟨_,rfl⟩;obtain⟨w2,hw2⟩:∃ w,w=w1.alloc (.cells #[.int .i64 kind,r,s,.int .i64 v] 76):=⟨_,rfl⟩;obtain⟨w3,hw3⟩:∃ w,w=w2.alloc (.cells #[.int .i64 kf] 3):=⟨_,rfl⟩;obtain⟨w4,hw4⟩:∃ w,w=w3.alloc (.cells #[.int .i64 kg] 3):=⟨_,rfl⟩;have z1:w1.heap.size=t+1:=by rw[hw1,ht];simp
 have z2:w2.heap.size=t+2:=by rw[hw2];simp[z1]
 have z3:w3.heap.size=t+3:=by rw[hw3];simp[z2]
 have z4:w4.heap.size=t+4:=by rw[hw4];simp[z3]
 have b1:Below t W w1:=by rw[hw1,ht];exact Zaf _ _
 have b2:Below (t+1) w1 w2:=by rw[hw2,<- z1];exact Zaf _ _
 have b3:Below (t+2) w2 w3:=by rw[hw3,<- z2];exact Zaf _ _
 have b4:Below (t+3) w3 w4:=by rw[hw4,<- z3];exact Zaf _ _
 have hb:Below t W w4:=b1.trans ((b2.mono (by omega)).trans ((b3.mono (by omega)).trans (b4.mono (by omega))));have x1:w4.heap[t]?=some (.cells #[.pointer (some ⟨mb,0,none⟩)] 41 (0,0)):=by rw[b4.block _ (by omega),b3.block _ (by omega),b2.block _ (by omega),hw1,ht];exact heap_alloc_new _ _
 have x2:w4.heap[t+1]?=some (.cells #[.int .i64 kind,r,s,.int .i64 v] 76 (0,0)):=by rw[b4.block _ (by omega),b3.block _ (by omega),hw2,<- z1];exact heap_alloc_new _ _
 have x3:w4.heap[t+1+1]?=some (.cells #[.int .i64 kf] 3 (0,0)):=by rw[b4.block _ (by omega),hw3,<- z2];exact heap_alloc_new _ _
 have x4:w4.heap[t+1+1+1]?=some (.cells #[.int .i64 kg] 3 (0,0)):=by rw[hw4,show t+1+1+1=t+3 from rfl,<- z3];exact heap_alloc_new _ _
 have HS:Hid (FxS K n room w0 mb ws0 C o0 wb (fun W o=>B W o/\NxB t (t+1) (t+1+1) (t+1+1+1) mb kind v kf kg W o) fs nx w4):=Hd (by
  obtain⟨o,m,V,h1,h2,h3,h4⟩:=h;have hb':Below W.heap.size W w4:=ht ▸ hb;have hc:=ChgX.of_below hb' o NoB;refine⟨o,m,V,h1.trans hc NoB.sub,h2,h3.below hb',hB _ _ _ _ h4 hc,⟨?_,h3.lt.none (by omega)⟩,⟨?_,h3.lt.none (by omega)⟩,⟨?_,h3.lt.none (by omega)⟩,⟨?_,h3.lt.none (by omega)⟩,⟨?_,h3.lt.none (by omega)⟩⟩
  ·
   rw[cell_of_row _ _ 0 _ _ _ x1];rfl
  ·
   rw[cell_of_row _ _ 0 _ _ _ x2];rfl
  ·
   rw[cell_of_row _ _ 3 _ _ _ x2];rfl
  ·
   rw[cell_of_row _ _ 0 _ _ _ x3];rfl
  ·
   rw[cell_of_row _ _ 0 _ _ _ x4];rfl)
 have HZ:Hid (t<w4.heap.size/\t+1<w4.heap.size/\t+1+1<w4.heap.size/\t+1+1+1<w4.heap.size):=Hd (by omega);have HW4:Hid (_=w4):=Hd hw4.symm;rw[hw3,hw2,hw1] at HW4;have HT:=Hd ht;clear h hw1 hw2 hw3 hw4 b1 b2 b3 b4 x1 x2 x3 x4 z1 z2 z3 z4 hb ht
 go_enter Tryz.func56,Tryz.ntmps56
 go_upto_region 1 with fail;rw[<- HT.out,HW4.out];go_wp2_with fail;go_ret;exact⟨t,t+1,t+1+1,t+1+1+1,rfl,HZ.out,HS.out⟩
end
open Go.RowKit
theorem turnF_dep {n:Nat} {v:Int} {F:BF} (hF:DepF n F):DepF n (turnF v F):=fun ρ ρ' hr=>by
 unfold turnF;split
 ·
  refine hF _ _ fun u hu=>?_
  show sigF [v] u ρ=sigF [v] u ρ'
  unfold sigF;split
  ·
   show (!ρ u) = !ρ' u
   rw[hr u hu]
  ·
   exact hr u hu
 ·
  exact hF ρ ρ' hr
theorem next0_dep {n:Nat} {v:Int} {P Q F:BF} (hP:DepF n P) (hQ:DepF n Q) (hF:DepF n F):DepF n (nextF 0 v P Q F):=by
 rw[show nextF 0 v P Q F=orF Q (andF P (turnF v F)) from if_pos rfl];exact Zjf hQ (Zf9 n true) (Zjf hP (turnF_dep hF) (Zf9 n false))
theorem room_fix {n:Nat} (hn:n<=4):(60+4)*2^n+(2^n-1)*(2^n+1)<=Zb7 n:=by
 rcases(show n=0\/n=1\/n=2\/n=3\/n=4 by omega) with rfl|rfl|rfl|rfl|rfl<;>decide
theorem pow_le16 {n:Nat} (hn:n<=4):2^n<=16:=by
 rcases(show n=0\/n=1\/n=2\/n=3\/n=4 by omega) with rfl|rfl|rfl|rfl|rfl<;>decide
theorem and_none {F G:BF} (h:∀ ρ,¬ (F ρ=true/\G ρ=true)):andF F G=Zi9 1:=funext fun ρ=>by
 rw[andF_at];have:=h ρ;cases hF:F ρ<;>cases hG:G ρ<;>simp_all [Zi9]
section
variable {K:Law} {n room L:Nat} {w0 w wb W W':World} {mb:Nat} {fs:List (Int×BF)} {nx:Int} {o0:Own} {ws0:List Ev} {C:Nat->Prop} {B:World->Own->Prop}
theorem FxS.meets0 (hK:Zbu K) (hB:Zdy B) (h:FxS K n room w0 mb ws0 C o0 wb B fs nx W) {k1 k2:Int} {F1 F2:BF} (h1:(k1,F1)∈fs) (h2:(k2,F2)∈fs) (hd:andF F1 F2=Zi9 1) (hn:nx<=549755813888) (hr:(fs.length+1)*2^n<=room) :
 Calls Tryz.prog 60 #[.pointer (some ⟨mb,0,none⟩),.int .i64 k1,.int .i64 k2] W fun x w'=>x=.returned (.tuple #[.bool false,.int .i64 0])/\FxS K n room w0 mb ws0 C o0 wb B fs nx w':=by
 obtain⟨o,m,V,q1,q2,q3,q4⟩:=h;refine(meets_any hK q3 h1 h2 (b:=true) (by simp[hd]) q2 hn (by rw[Nat.add_mul] at hr;omega)).mono ?_;rintro x w' ⟨q5,o',m',V',q6,q7,q8⟩;exact⟨q5,o',m',V',q1.trans q6 NoB.sub,q7,q8,hB _ _ _ _ q4 q6⟩
theorem FxS.orL (hK:Zbu K) (hB:Zdy B) (h:FxS K n room w0 mb ws0 C o0 wb B fs nx W) {rs:List (Int×BF)} {v:Value} {base:Nat} (hl:∀ o,B W o->LawL W o base v (rs.map Prod.fst)) (hbase:w0.heap.size<=base) (hsub:∀ p∈rs,p∈fs) (hsm:rs.length<=1000) (hn:nx<=549755813888) (hr:(fs.length+rs.length)*2^n<=room) :
 Calls Tryz.prog 59 #[.pointer (some ⟨mb,0,none⟩),v] W fun x w'=>x=.returned (.tuple #[.int .i64 nx,.int .i64 0])/\FxS K n room w0 mb ws0 C o0 wb B (fs++[(nx,Zim orF (Zi9 1) (rs.map Prod.snd))]) (nx+1) w':=by
 obtain⟨o,m,V,q1,q2,q3,q4⟩:=h;have hL:=hl o q4;obtain⟨a,c,rfl,hz,hno⟩:=hL.ints (by simp;omega);refine(Zzp (c:=c) (ks:=rs.map Prod.fst) (Fs:=rs.map Prod.snd) hK q3 ⟨hz,fun x hx=>?_,by simp,fun i hi=>?_⟩ q2 hn ?_).mono ?_
 ·
  have:=hL.own.lt x.block (by rw[hx];rfl);exact⟨this.2,Nat.le_trans hbase this.1,hno x hx⟩
 ·
  have hi':i<rs.length:=by simpa using hi
  have e:((rs.map Prod.fst)[i],(rs.map Prod.snd)[i]'(by simpa using hi'))=rs[i]:=by simp
  rw[e];exact hsub _ (List.getElem_mem hi')
 ·
  rw[Nat.add_mul] at hr;have:rs.length*(2^n-1)<=rs.length*2^n:=Nat.mul_le_mul_left _ (Nat.sub_le _ _);simp only[List.length_map];omega
 ·
  rintro x w' ⟨q5,o',m',V',q6,q7,q8⟩;exact⟨q5,o',m',V',q1.trans q6 NoB.sub,q7,q8,hB _ _ _ _ q4 q6⟩
theorem goes_end {Bj:Nat->World->Own->Prop} {Φ:BF->BF} {c:Int} {j0:Nat} {F0:BF} {x:Ending} {w':World} (h:Zj7 K n room w0 mb ws0 C o0 wb Bj Φ (fun _=>0) c j0 F0 fs nx x w') (h0:0<=c) (hc:c<=100) (hon:¬ OnF Φ F0 4096) :
 ∃ p k nx' s,x=.returned (.tuple #[.int .i64 p,.int .i64 ((k:Nat)+1),.int .i64 0])/\EndF Φ F0 k/\nx<=nx'/\nx'<=nx+500000/\FxS K n room w0 mb ws0 C o0 wb (Bj s) (fs++[(p,Zez Φ F0 k)]) nx' w':=by
 obtain⟨s,nx',hs,h1,h2,hcase⟩:=h;have h3:(s:Int)*c<=4096*100:=Int.mul_le_mul (by omega) hc h0 (by omega);rcases hcase with ⟨p,k,_,rfl,he,_,hst⟩|⟨k,_,_,hne,_⟩|⟨rfl,_,hO,_⟩
 ·
  exact⟨p,k,nx',_,rfl,he,h1,by omega,hst⟩
 ·
  exact(hne rfl).elim
 ·
  exact(hon hO).elim
theorem FunC.callO {bs:List (Int×BF)} {g:Nat} {lop:Array Value} {Φ:BF->BF} {c:Int} (hf:FunC K n room w0 mb ws0 L C (fun _=>B) bs g lop Φ (fun _=>0) c) {k:Int} {F:BF} (h:FxS K n room w0 mb ws0 C o0 wb B fs nx W) (hb:B2 fs) (hbs:∀ p∈bs,p∈fs) (hk:(k,F)∈fs) (hn:nx+c<=549755813888) (hl:fs.length<=L) {args:Array Value} (ha:args=#[.int .i64 k]++lop) :
 Calls Tryz.prog g args W fun e w'=>∃ p nx',e=.returned (.tuple #[.int .i64 p,.int .i64 0])/\nx<=nx'/\nx'<=nx+c/\FxS K n room w0 mb ws0 C o0 wb B (fs++[(p,Φ F)]) nx' w':=by
 subst ha;refine(hf.call 0 (by omega) o0 wb W fs nx k F h hb hbs hk hn hl).mono ?_;rintro e w' ⟨p,nx',q1,q2,q3,q4,_⟩;exact⟨p,nx',q1,q2,q3,q4 rfl⟩
theorem FxS.below0 (h:FxS K n room w0 mb ws0 C o0 wb B fs nx W):Below w0.heap.size w0 W:=by
 obtain⟨o,m,V,_,_,h3,_⟩:=h;exact h3.chg.below0
theorem keepL {base:Nat} {v:Value} {ks:List Int}:Zdy fun W o=>LawL W o base v ks:=fun _ _ _ _ h hc=>h.chg hc
end
end Go.Proofs.YtljjokfhdkegbaaGreat
