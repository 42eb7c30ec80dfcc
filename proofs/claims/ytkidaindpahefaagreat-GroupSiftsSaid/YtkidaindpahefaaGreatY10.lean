/- Several texts in one file: contracts of the program's functions and what follows from them. -/
import Derived.Test.YtkidaindpahefaaGreatY9
import Derived.Deep.Slices
import Derived.ChangeArms
import Derived.WideShapes
set_option linter.unusedSimpArgs false
set_option linter.unusedVariables false
set_option linter.unusedSectionVars false
set_option linter.unnecessarySimpa false
set_option maxRecDepth 100000
set_option maxHeartbeats 8000000
namespace Go.Proofs.YtkidaindpahefaaGreat
open Go.Proofs.Tryz
open Go.RowKit
variable {P:Program}{W w:Wd}{base fuel n:Nat}{held:Bool}{hs:List (Int×BF)}{nx:Int}{spare:Nat->Bool}{v vl vx:Value}
theorem LwB.rowT {o:Own}(q:Q23 n hs nx)(h:LwB n base vl vx hs W o){d:Nat}(hd:d<=hs.length) :
 ∃ a c,vx=.slice a hs.length c/\RowT n W a ((hs.take d).map Prod.snd)/\∀ x,a=some x->0<((hs.take d).map Prod.snd).length->x.block<W.heap.size:=by
 obtain⟨rs,h1,h2,h3⟩:=h.2.ex;rw[Vw] at h1;obtain⟨a,c,e,_⟩:=h2.slice;refine⟨a,c,by rw[e,h1],⟨by simp;have:=q.h5;omega,fun i hi=>?_⟩,fun x hx hp=>?_⟩
 ·simp at hi;obtain⟨g,cap,e2,_,_⟩:=h2.shape (by omega);rw[e] at e2;injection e2 with e2 _ _
  subst e2;have hc:=h2;rw[e] at hc;have g0:=hc.cell i (by omega);have hb:=h3 i rs[i] (by simp);have eu:(hs.map fun p=>tabB n p.2).getD i []=tabB n hs[i].2:=by simp[List.getD,show i<hs.length by omega]
  rw[eu] at hb;refine⟨g,0,rs[i],rfl,by rw[VJ,g0];simp,⟨?_,fun k hk=>?_⟩⟩
  . have:=hb.is;simpa using this
  . obtain⟨_,q2,_,q4⟩:=hb.no k hk;exact⟨q2,q4⟩
 ·obtain⟨g,cap,e2,_,h4⟩:=h2.shape (by simp at hp;omega);rw[e] at e2;injection e2 with e2 _ _
  subst e2;cases hx;exact h4
open Go.RowKit Go.Deep Go.ChangeShapes Go.WideShapes
theorem wfI {x:Int}(h:(Lit.int .i64 x).wf=true):okI x:=by
 unfold okI;simp only[Lit.wf,IntKind.min,IntKind.max,IntKind.signed,IntKind.bits,Wu,WB,Ws] at h;omega
theorem G5 {b off:Nat}(k:Nat):((Aw b off):Addr).add k=(Aw b (off+k)):=by unfold Addr.add;split<;>simp_all
theorem add0 (a:Addr):a.add 0=a:=by simp[Addr.add]
theorem G6 {a:Addr}(h:w.cell? a=some v):a.spot=none:=by
 obtain⟨b,off,spot⟩:=a;cases spot with
 | none=>rfl
 | some s=>simp[World.cell?] at h;split at h<;>simp at h
theorem Vh {p:Nat->Ev->Prop}(h:∀ i,i<n->∃ x,p i x):∃ f:Nat->Ev,∀ i,i<n->p i (f i):=by
 classical
 refine⟨fun i=>if hi:i<n then Classical.choose (h i hi) else ⟨0,0,0⟩,fun i hi=>?_⟩;simp only[dif_pos hi];exact Xn (h i hi)
theorem G7 {H:Type}{enc:TypeId×Value->H}{t e:TypeId}{cs:List Value}{x:DataW H×List MemPlace}(ht:P.underlying t=some (.slice e))(h:DataW.trod enc P w base spare held fuel t cs=some x) :
 cs=[.slice none 0 0]\/∃ (a:Addr) (len cap n:Nat),cs=[.slice (some a) len cap]/\len<=cap/\cap<=maxLen/\fuel=n+1/\∀ i,i<len->∃ cs' y,w.cells? base (a.add (i*P.cellsOf e)) (P.cellsOf e)=some cs'/\DataW.trod enc P w base spare held n e cs'=some y:=by
 rcases DataW.trod_slice ht h with ⟨h0,_⟩|⟨a,len,cap,elems,rest,n,hn,e1,_,_,hl,hm,g1,g0,_⟩
 . exact .inl h0
 . refine .inr ⟨a,len,cap,n,e1,hl,hm,hn,fun i hi=>?_⟩;have:=g0 i hi;rw[VD (by omega)] at this;obtain⟨cs',h1,h2⟩:=Option.bind_eq_some_iff.1 this;exact⟨cs',_,h1,h2⟩
abbrev Ye:=@DataW.trod_int
theorem open_expr {H:Type}{enc:TypeId×Value->H}:∀ (fuel:Nat) {cs:List Value} {x:DataW H×List MemPlace},
 DataW.trod enc prog w base spare held fuel 79 cs=some x->∃ e x0 x1 x2,cs=[x0,x1,x2]/\A3 w e (.agg #[x0,x1,x2]):=by
 intro fuel
 induction fuel using Nat.strongRecOn with
 | _ fuel IH =>
   intro cs x h;obtain⟨xs,k,hk,g8,g5,g6,hf⟩:=DataW.trod_struct underlying79 h;have c1:prog.cellsOf 3=1:=by kernel_rfl
   have c2:prog.cellsOf 23=1:=by kernel_rfl
   have c3:prog.cellsOf 79=3:=by kernel_rfl
   rw[c3] at g5
   match xs,g6,cs,g5 with
   | [y0,y1,y2],_,[v0,v1,v2],_ =>
     have g0:=hf 0 _ rfl;have g1:=hf 1 _ rfl;have g2:=hf 2 _ rfl;simp[c1,c2] at g0 g1 g2;obtain⟨n0,e0,_,w0⟩:=Ye underlying3 g0;obtain⟨n1,e1,_,w1⟩:=Ye underlying3 g1;simp only[Xo,and_true] at e0 e1;subst e0 e1;rcases G7 underlying23 g2 with e2|⟨a,len,cap,n,e2,hl,hm,g9,hx⟩
     . simp only[Xo,and_true] at e2;subst e2;exact⟨.mk n0 n1 0 (fun _=>.nil),_,_,_,rfl,by unfold A3;exact⟨none,0,rfl,wfI w0,wfI w1,by omega,fun k hk=>by omega⟩⟩
     ·simp only[Xo,and_true] at e2;subst e2;have each:∀ i,i<len->∃ q:ExT,∃ x0 x1 x2,w.cell? (a.add (i*3))=some x0/\w.cell? ((a.add (i*3)).add 1)=some x1/\w.cell? ((a.add (i*3)).add 2)=some x2/\A3 w q (.agg #[x0,x1,x2]):=by
       intro i hi;obtain⟨cs',y,h1,h2⟩:=hx i hi;rw[c3] at h1;obtain⟨_,g7,g3⟩:=World.cells?_some h1;obtain⟨e,x0,x1,x2,rfl,he⟩:=IH n (by omega) h2;have f0:=g3 0 (by omega);have f1:=g3 1 (by omega);have f2:=g3 2 (by omega);rw[add0] at f0;exact⟨e,x0,x1,x2,by simpa using f0,by simpa using f1,by simpa using f2,he⟩
      obtain⟨q,hq⟩:=choose_lt each;refine⟨.mk n0 n1 len q,_,_,_,rfl,?_⟩;unfold A3;refine⟨some a,cap,rfl,wfI w0,wfI w1,by unfold maxLen at hm;omega,fun i hi=>?_⟩;obtain⟨x0,x1,x2,f0,f1,f2,he⟩:=hq i hi;have g4:a.spot=none:=by
       obtain⟨_,_,_,q0,_⟩:=hq 0 (by omega);have:=G6 q0;simpa [Addr.add] using this
      obtain⟨b,off,spot⟩:=a;dsimp only at g4;subst g4;simp only[G5] at f0 f1 f2;exact⟨b,off,x0,x1,x2,rfl,f0,f1,f2,he⟩
theorem Vi {H:Type}{enc:TypeId×Value->H}{cs:List Value}{x:DataW H×List MemPlace}
 (h:DataW.trod enc prog w base spare held fuel 23 cs=some x):∃ a l cap,cs=[.slice a l.length cap]/\Fb w a l:=by
 have c3:prog.cellsOf 79=3:=by kernel_rfl
 rcases G7 underlying23 h with e2|⟨a,len,cap,n,e2,hl,hm,g4,hx⟩
 . exact⟨none,[],0,e2,⟨by simp,fun k hk=>by simp at hk⟩⟩
 ·subst e2;have each:∀ i,i<len->∃ q:ExT,∃ x0 x1 x2,w.cell? (a.add (i*3))=some x0/\w.cell? ((a.add (i*3)).add 1)=some x1/\w.cell? ((a.add (i*3)).add 2)=some x2/\A3 w q (.agg #[x0,x1,x2]):=by
   intro i hi;obtain⟨cs',y,h1,h2⟩:=hx i hi;rw[c3] at h1;obtain⟨_,g3,g0⟩:=World.cells?_some h1;obtain⟨e,x0,x1,x2,rfl,he⟩:=open_expr n h2;have f0:=g0 0 (by omega);have f1:=g0 1 (by omega);have f2:=g0 2 (by omega);rw[add0] at f0;exact⟨e,x0,x1,x2,by simpa using f0,by simpa using f1,by simpa using f2,he⟩
  obtain⟨q,hq⟩:=choose_lt each;refine⟨some a,(List.range len).map q,cap,by simp,⟨by unfold maxLen at hm;simp;omega,fun i hi=>?_⟩⟩;have g2:i<len:=by simpa using hi
  obtain⟨x0,x1,x2,f0,f1,f2,he⟩:=hq i g2;have g1:a.spot=none:=by
   obtain⟨_,_,_,q0,_⟩:=hq 0 (by omega);have:=G6 q0;simpa [Addr.add] using this
  obtain⟨b,off,spot⟩:=a;dsimp only at g1;subst g1;simp only[G5] at f0 f1 f2;exact⟨b,off,x0,x1,x2,rfl,f0,f1,f2,by simpa using he⟩
theorem open_evs {H:Type}{enc:TypeId×Value->H}{cs:List Value}{x:DataW H×List MemPlace}
 (h:DataW.trod enc prog w base spare held fuel 24 cs=some x):∃ a l cap,cs=[.slice a l.length cap]/\EvsAt w a l/\(∀ ev∈l,okI ev.after/\okI ev.kind/\okI ev.level)/\(a=none->cap=0)/\l.length<=cap/\cap<=maxLen:=by
 have c1:prog.cellsOf 3=1:=by kernel_rfl
 have c3:prog.cellsOf 77=3:=by kernel_rfl
 rcases G7 underlying24 h with e2|⟨a,len,cap,n,e2,hl,hm,ga,hx⟩
 . exact⟨none,[],0,e2,⟨by simp,fun k hk=>by simp at hk⟩,by simp,fun _=>rfl,by simp,by simp⟩
 ·subst e2;have each:∀ i,i<len->∃ q:Ev,w.cell? (a.add (i*3))=some (Iv q.after)/\w.cell? ((a.add (i*3)).add 1)=some (Iv q.kind)/\w.cell? ((a.add (i*3)).add 2)=some (Iv q.level)/\okI q.after/\okI q.kind/\okI q.level:=by
   intro i hi;obtain⟨cs',y,h1,h2⟩:=hx i hi;rw[c3] at h1;obtain⟨_,g5,g3⟩:=World.cells?_some h1;obtain⟨xs,k,hk,g9,_,g6,hf⟩:=DataW.trod_struct underlying77 h2
   match xs,g6,cs',g5 with
   | [y0,y1,y2],_,[v0,v1,v2],_ =>
     have g0:=hf 0 _ rfl;have g1:=hf 1 _ rfl;have g2:=hf 2 _ rfl;simp[c1] at g0 g1 g2;obtain⟨n0,e0,_,w0⟩:=Ye underlying3 g0;obtain⟨n1,e1,_,w1⟩:=Ye underlying3 g1;obtain⟨n2,e2,_,w2⟩:=Ye underlying3 g2;simp only[Xo,and_true] at e0 e1 e2;subst e0 e1 e2;have f0:=g3 0 (by omega);have f1:=g3 1 (by omega);have f2:=g3 2 (by omega);rw[add0] at f0;exact⟨⟨n0,n1,n2⟩,by simpa using f0,by simpa using f1,by simpa using f2,wfI w0,wfI w1,wfI w2⟩
  obtain⟨q,hq⟩:=Vh each;refine⟨some a,(List.range len).map q,cap,by simp,⟨by unfold maxLen at hm;simp;omega,fun i hi=>?_⟩,?_,by simp,by simpa using hl,hm⟩
  ·have g7:i<len:=by simpa using hi
   obtain⟨f0,f1,f2,_⟩:=hq i g7;have g4:a.spot=none:=by
    obtain⟨q0,_⟩:=hq 0 (by omega);have:=G6 q0;simpa [Addr.add] using this
   obtain⟨b,off,spot⟩:=a;dsimp only at g4;subst g4;simp only[G5] at f0 f1 f2;exact⟨b,off,rfl,by simpa using f0,by simpa using f1,by simpa using f2⟩
  . intro ev g8;obtain⟨i,hi,rfl⟩:=Vz.1 g8;exact(hq i (by simpa using hi)).2.2.2
theorem open_ask {H:Type}{enc:TypeId×Value->H}{cs:Array Value}{x:DataW H×List MemPlace}(hv:v=.agg cs)
 (h:DataW.trod enc prog w base (fun _=>true) held fuel 26 v.cells.toList=some x):∃ q ao ae ap co ce cp,v=askV q ao ae ap co ce cp/\AskAt w q ao ae ap/\(∀ ev∈q.plan,okI ev.after/\okI ev.kind/\okI ev.level)/\(ao=none->co=0)/\(ap=none->cp=0)/\q.plan.length<=cp/\cp<=maxLen:=by
 subst hv;obtain⟨xs,k,hk,gi,g5,g7,hf⟩:=DataW.trod_struct underlying26 h;have c1:prog.cellsOf 3=1:=by kernel_rfl
 have c2:prog.cellsOf 22=1:=by kernel_rfl
 have c4:prog.cellsOf 23=1:=by kernel_rfl
 have c5:prog.cellsOf 24=1:=by kernel_rfl
 have c3:prog.cellsOf 26=4:=by kernel_rfl
 rw[c3] at g5;obtain⟨cl⟩:=cs;simp only[Value.cells] at g5 hf
 match xs,g7,cl,g5 with
 | [y0,y1,y2,y3],_,[v0,v1,v2,v3],_ =>
   have g0:=hf 0 _ rfl;have g1:=hf 1 _ rfl;have g2:=hf 2 _ rfl;have g3:=hf 3 _ rfl;simp[c1,c2,c4,c5] at g0 g1 g2 g3;obtain⟨n0,e0,_,w0⟩:=Ye underlying3 g0;simp only[Xo,and_true] at e0;subst e0;obtain⟨ao,zs,co,e1,gf,gc⟩:∃ a zs c,v1=.slice a zs.length c/\Au w a zs/\(a=none->c=0):=by
    rcases open_ints underlying22 underlying3 (by kernel_rfl) g1 with ⟨g4,_⟩|⟨x,l,c,zs,g4,_,hl,hm,hz,_,g6,g8⟩
    . simp at g4;subst g4;obtain⟨a,c,e,h1,h2⟩:=sliceIs_of_row (w:=w) (a:=none) (len:=0) (cap:=0) (.inl ⟨rfl,rfl,rfl,rfl⟩);exact⟨a,_,c,e,h1,h2⟩
    . simp at g4;subst g4;obtain⟨a,c,e,h1,h2⟩:=sliceIs_of_row (w:=w) (.inr ⟨_,rfl,hl,hm,by simpa using hz,g6,g8⟩);exact⟨a,_,c,e,h1,h2⟩
   obtain⟨ae,es,ce,e2,gh⟩:=Vi g2;obtain⟨ap,evs,cp,e3,gg,g9,ga,ge,gd⟩:=open_evs g3;simp only[Xo,and_true] at e2 e3;subst e1 e2 e3;exact⟨⟨n0,zs,es,evs⟩,ao,ae,ap,co,ce,cp,rfl,⟨wfI w0,gf,gh,gg⟩,g9,gc,ga,ge,gd⟩
theorem open_ints2 {H:Type}{enc:TypeId×Value->H}{b0:Nat}{r:Reach}{d:DataW H}{ps:List MemPlace}(hval:Value.okWide prog w r b0 27 v)(hd:DataW.Trod enc prog w base (fun _=>true) held 27 v d ps) :
 ∃ gs:List (List Int),SlsC w v gs:=by
 obtain⟨a,len,cap,rfl⟩:=okWide_slice underlying27 hval;obtain⟨fuel,hf⟩:=hd;have c1:prog.cellsOf 22=1:=by kernel_rfl
 rcases G7 underlying27 hf with e2|⟨a',len',cap',n,e2,hl,hm,g7,hx⟩
 . simp[Value.cells] at e2;obtain⟨rfl,rfl,rfl⟩:=e2;exact⟨[],none,0,[],rfl,fun _=>rfl,by simp,AW.nil _,fun i hi=>by simp at hi,fun x hx=>by simp at hx⟩
 ·simp[Value.cells] at e2;obtain⟨rfl,rfl,rfl⟩:=e2;have each:∀ i,i<len->∃ q:Value×List Int,w.cell? (a'.add i)=some q.1/\SliceIs w q.1 q.2/\Jk q.1:=by
   intro i hi;obtain⟨cs',y,h1,h2⟩:=hx i hi;rw[c1,Nat.mul_one] at h1;obtain⟨_,g3,g1⟩:=World.cells?_some h1
   match cs',g3 with
   | [v0],_ =>
     have f0:=g1 0 (by omega);rw[add0] at f0;have f0':w.cell? (a'.add i)=some v0:=by simpa using f0
     rcases open_ints underlying22 underlying3 (by kernel_rfl) h2 with ⟨g0,_⟩|⟨x,l,c,zs,g0,_,hl,hm,hz,_,g6,g4⟩
     ·have e:v0=.slice none 0 0:=by simpa using g0
      subst e;exact⟨(.slice none 0 0,[]),f0',Fx w,Vo _,Vu _⟩
     ·have e:v0=.slice (some x) l c:=by simpa using g0
      subst e;exact⟨(.slice (some x) l c,zs.take l),f0',sliceIs_of_row (.inr ⟨_,rfl,hl,hm,by simpa using hz,g6,g4⟩),hl,hm⟩
  obtain⟨q,hq⟩:∃ q:Nat->Value×List Int,∀ i,i<len->w.cell? (a'.add i)=some (q i).1/\SliceIs w (q i).1 (q i).2/\Jk (q i).1:=by
   classical
   refine⟨fun i=>if hi:i<len then Classical.choose (each i hi) else (.slice none 0 0,[]),fun i hi=>?_⟩;simp only[dif_pos hi];exact Xn (each i hi)
  refine⟨(List.range len).map fun i=>(q i).2,some a',cap,(List.range len).map fun i=>(q i).1,by simp,fun e=>(by cases e),by unfold maxLen at hm;simp;omega,⟨by simp,fun i h1 h2=>?_⟩,fun i hi=>?_,fun x hx=>?_⟩
  ·have hi:i<len:=by simpa using h1
   simp only[XN,List.getElem_range];exact(hq i hi).2.1
  ·have g5:i<len:=by simpa using hi
   have f0:=(hq i g5).1;have g2:a'.spot=none:=by
    have q0:=(hq 0 (by omega)).1;have:=G6 q0;simpa [Addr.add] using this
   obtain⟨b,off,spot⟩:=a';dsimp only at g2;subst g2;simp only[G5] at f0;exact⟨b,off,rfl,by simpa using f0⟩
  . obtain⟨i,hi,rfl⟩:=Vz.1 hx;exact(hq i (Xb.1 hi)).2.2
end Go.Proofs.YtkidaindpahefaaGreat
