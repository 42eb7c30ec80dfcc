/- Several texts in one file: contracts of the program's functions and what follows from them. -/
import Derived.Test.YtkbegdkpboklpaaGreatN7
import Derived.Deep.Slices
import Derived.ChangeArms
import Derived.WideShapes
set_option linter.unusedSimpArgs false
set_option linter.unusedVariables false
set_option linter.unusedSectionVars false
set_option linter.unnecessarySimpa false
set_option maxRecDepth 100000
set_option maxHeartbeats 8000000
namespace Go.Proofs.YtkbegdkpboklpaaGreat
open Go.Proofs.Tryz
open Go.RowKit
theorem Zyg {K:Law}(n room:Nat)(w:World)(hn:n<=64)(h1:1<=room)(h2:room<=1048576) :
 Calls prog 43 #[.int .i64 n,.int .i64 room] w fun x w'=>∃ mb,x=.returned (.tuple #[.pointer (some ⟨mb,0,none⟩),.int .i64 0])/\∃ o m V,SatE K n (fun l=>l=List.range n) room w mb two 2 w' o m V/\m.waits=[]:=by
 refine(Zwi (F:=K (man0 n room).d (fun _ _=>true)) (fun _=>none) n room w (fun k r h=>by cases h) hn h1 h2).mono ?_;rintro x w1 ⟨mb,o1,rfl,g0,g2,g1,_⟩;exact⟨mb,rfl,o1,man0 n room,fun _ _=>true,⟨g0,g1,Zv9 n room hn,by simp[man0,store0],by simp[man0,store0],by simp[man0,store0,pool0],rfl,by simp[man0,two,ef];constructor<;>rfl,ChgX.of_chg g2 NoB⟩,rfl⟩
def gs24:List (List Int):=[[3,1],[0],[2]]
theorem Zpj:Zd1 [[3,1]] 4=gs24:=by decide +kernel
theorem Zmd:Zeu [[3,1]] 4 0:=.inr (.inr ⟨rfl,by
 intro x hx;simp at hx;omega,by decide⟩)
theorem whole24:Zgr gs24 4:=by rw[<- Zpj];exact Zh7 Zmd
theorem Ztj:Zfh gs24 [0,3,1,2] 4:=by
 refine⟨rfl,by decide +kernel,fun g hg t ht=>?_⟩;simp only[gs24,List.mem_cons,List.not_mem_nil,or_false] at hg;rcases hg with rfl|rfl|rfl
 .
  obtain rfl:t=0:=by simp at ht;omega
  decide +kernel
 . simp at ht
 . simp at ht
theorem Zvx:¬ Zfh gs24 [1,3,0,2] 4:=fun h=>by
 have:=h.2.2 [3,1] (by simp[gs24]) 0 (by simp);revert this
 decide +kernel
theorem Zq4 {pl:List Nat}(h:Placed gs24 (levZ ((List.range 4).map Int.ofNat)) pl):gather gs24 pl=[0,2,3,1]:=by
 have h2:=Zfv (gs:=gs24) (n:=4) whole24 (zs:=(List.range 4).map Int.ofNat) (by decide +kernel) (by simp);rw[h.uniq h2]
 decide +kernel
theorem Zga (w:World)(zs:List Int)(n:Nat)(hn:n=zs.length)(hl:zs.length<=1000000)(cs:Array Value)(hcs:cs=(Zbh zs).toArray):SliceIs (w.alloc (.cells cs 3)) (.slice (some ⟨w.heap.size,0,none⟩) n n) zs:=by
 subst hcs hn;exact⟨_,_,rfl,Zi7 w zs hl,fun e=>by cases e⟩
theorem Zw4 (W:World)(xs:List Value)(gs:List (List Int))(hs:Zdx W xs gs)(hl:gs.length<=1000)(n N:Nat)(hn:n=gs.length)(hN:N=W.heap.size)(cs:Array Value)(hcs:cs=xs.toArray):Zco (W.alloc (.cells cs 23)) (.slice (some ⟨N,0,none⟩) n n) gs:=by
 subst hn hN hcs;refine⟨_,_,xs,rfl,(fun e=>by cases e),by omega,hs.below (Zad _ _),fun i hi=>⟨W.heap.size,0,rfl,?_⟩⟩;rw[Nat.zero_add,cell_of_row _ _ i _ _ _ (heap_alloc_new _ _)];simp[hi]
theorem Ya1 (w:World)(N:Nat)(hN:N=(w.alloc (.cells #[.int .i64 3,.int .i64 1] 3)).heap.size):Zco ((w.alloc (.cells #[.int .i64 3,.int .i64 1] 3)).alloc (.cells #[.slice (some ⟨w.heap.size,0,none⟩) 2 2] 23)) (.slice (some ⟨N,0,none⟩) 1 1) [[3,1]] :=
 Zw4 _ [.slice (some ⟨w.heap.size,0,none⟩) 2 2] [[3,1]] ⟨rfl,fun i h1 h2=>by
  obtain rfl:i=0:=by simp at h1;omega
  exact Zga w [3,1] 2 rfl (by simp) _ rfl⟩ (by simp) 1 _ rfl hN _ rfl
theorem Zw5 (w:World)(N1 N2 N:Nat)(h1:N1=w.heap.size+1)(h2:N2=w.heap.size+1+1)(hN:N=w.heap.size+1+1+1):Zco ((((w.alloc (.cells #[.int .i64 3,.int .i64 1] 3)).alloc (.cells #[.int .i64 0] 3)).alloc (.cells #[.int .i64 2] 3)).alloc (.cells #[.slice (some ⟨w.heap.size,0,none⟩) 2 2,.slice (some ⟨N1,0,none⟩) 1 1,.slice (some ⟨N2,0,none⟩) 1 1] 23)) (.slice (some ⟨N,0,none⟩) 3 3) gs24:=by
 obtain⟨w1,g2⟩:∃ x,x=w.alloc (.cells #[.int .i64 3,.int .i64 1] 3):=⟨_,rfl⟩;obtain⟨w2,g1⟩:∃ x,x=w1.alloc (.cells #[.int .i64 0] 3):=⟨_,rfl⟩;obtain⟨w3,g0⟩:∃ x,x=w2.alloc (.cells #[.int .i64 2] 3):=⟨_,rfl⟩;rw[<- g2,<- g1,<- g0];have z1:w1.heap.size=w.heap.size+1:=by rw[g2];simp
 have z2:w2.heap.size=w.heap.size+1+1:=by rw[g1];simp[z1]
 have z3:w3.heap.size=w.heap.size+1+1+1:=by rw[g0];simp[z2]
 have b2:Below w1.heap.size w1 w2:=by rw[g1];exact Zad _ _
 have b3:Below w2.heap.size w2 w3:=by rw[g0];exact Zad _ _
 have s1:SliceIs w1 (.slice (some ⟨w.heap.size,0,none⟩) 2 2) [3,1]:=by rw[g2];exact Zga w [3,1] 2 rfl (by simp) _ rfl
 have s2:SliceIs w2 (.slice (some ⟨w1.heap.size,0,none⟩) 1 1) [0]:=by rw[g1];exact Zga w1 [0] 1 rfl (by simp) _ rfl
 have s3:SliceIs w3 (.slice (some ⟨w2.heap.size,0,none⟩) 1 1) [2]:=by rw[g0];exact Zga w2 [2] 1 rfl (by simp) _ rfl
 rw[z1] at s2;rw[z2] at s3;rw[<- h1] at s2;rw[<- h2] at s3;refine Zw4 w3 [.slice (some ⟨w.heap.size,0,none⟩) 2 2,.slice (some ⟨N1,0,none⟩) 1 1,.slice (some ⟨N2,0,none⟩) 1 1] gs24 ⟨rfl,fun i h1 h2=>?_⟩ (by simp[gs24]) 3 N rfl (by rw[hN,z3]) _ rfl;rcases(show i=0\/i=1\/i=2 by simp at h1;omega) with rfl|rfl|rfl
 . exact(s1.below b2).below b3
 . exact s2.below b3
 . exact s3
abbrev G24 (K:Law)(w:World)(mb gb:Nat)(lv:Value)(P:List Nat->Prop)(W:World):Prop:=FxO K 4 9000 w mb [] NoB (fun _=>none) w (GrB mb gb lv gs24) P two 2 W
theorem Ze4 {K:Law}(w:World):Calls prog 18 #[] w fun x w'=>x=.returned (.bool true)/\Below w.heap.size w w':=by
 have gc:=Hd (Zyg (K:=K) 4 9000 w (by omega) (by omega) (by omega))
 go_enter func18,ntmps18
 go_wp2_with fail;refine gc.out.mono ?_;rintro x w1 ⟨mb,rfl,o,m,V,g4,gf⟩;have gn:Hid (∀ W v,Below w1.heap.size w1 W->Zco W v [[3,1]]->Calls prog 12 #[.pointer (some ⟨mb,0,none⟩),v] W fun x w'=>∃ gb lv,x=.returned (.tuple #[.pointer (some ⟨gb,0,none⟩),.int .i64 0])/\Below w1.heap.size w1 w'/\G24 K w mb gb lv (fun l=>l=List.range 4) w'):=Hd fun W v hb hv=>by
  refine(Zgz (n:=4) (fun W' ga=>((g4.below hb).below ga).vars_any.mono fun x w' h=>h) hv (by simp) (by simp) (by omega) (by omega)).mono ?_;rintro x w' ⟨g9,e,hc,⟨gr,_⟩|⟨_,gb,lv,rfl,hg⟩⟩
  . exact(gr (hc.uniq Zmd)).elim
  . rw[Zpj] at hg;have g0:=hb.trans (g9.mono hb.size);have gq:=g4.below g0;exact⟨gb,lv,rfl,g0,o,m,V,g4.chg.trans (ChgX.of_below g0 o NoB) NoB.sub,by rw[gf];exact List.suffix_refl _,gq,hg.toB (by decide) fun k hk=>g4.lt.none (Nat.le_trans hb.size hk)⟩
 clear g4 gf gc;go_wp2_with fail;refine(gn.out _ _ ((Zad _ _).alloc (by simp) _) (Ya1 w1 _ (by simp))).mono ?_;rintro x w2 ⟨gb,lv,rfl,g9,g5⟩;have gp:=Hd g5;have gu:=Hd (g5.ask (f:=15) (args:=#[.pointer (some ⟨gb,0,none⟩)]) (R:=fun x w'=>x=.returned lv/\w2=w') fun o m V _ hh=>Zio hh);have g7:Zco w2 lv gs24:=g5.know (Q:=fun W=>Zco W lv gs24) fun W o hh=>hh.2.is
 obtain⟨al,cl,rfl,_⟩:=g7.slice;have g6:Hid (∀ W v,Below w2.heap.size w2 W->Zco W v gs24->Calls prog 22 #[.slice al gs24.length cl,v] W fun x w'=>x=.returned (.bool true)/\Below W.heap.size W w'):=Hd fun W v hb hv=>by
  have:=Zmx (g7.below hb) hv (by simp[gs24]) (fun g hg=>by simp[gs24] at hg;rcases hg with rfl|rfl|rfl<;>simp);rw[decide_eq_true rfl] at this;exact this
 have g3:Hid (∀ W v zs (b:Bool),Below w2.heap.size w2 W->SliceIs W v zs->zs.length<=1000->(b=true↔Zfh gs24 zs 4)->Calls prog 16 #[.pointer (some ⟨gb,0,none⟩),v] W fun x w'=>x=.returned (.bool b)/\Below W.heap.size W w'):=Hd fun W v zs b hb hv hz hk =>
  (gp.out.below GrB.keep hb).ask fun o m V hs hh=>(Zf9 (n:=4) hh (fun W' ga=>(hs.below ga).vars_any.mono fun x w' h=>h) hv hz (fun x hx=>(whole24.mem x).1 hx) (by simp[gs24]) (fun g hg=>by simp[gs24] at hg;rcases hg with rfl|rfl|rfl<;>simp)).mono fun x w' ⟨b',h1,h2,h3⟩=>⟨by rw[h1,show b'=b from Bool.eq_iff_iff.2 (h2.trans hk.symm)],h3⟩
 have go:Hid (∀ W,Below w2.heap.size w2 W->Calls prog 17 #[.pointer (some ⟨gb,0,none⟩)] W fun x w'=>x=.returned (.int .i64 0)/\G24 K w mb gb (.slice al gs24.length cl) (fun l=>l.map Int.ofNat=[0,2,3,1]) w'):=Hd fun W hb =>
  (Ze0 GrB.keep (gp.out.below GrB.keep hb) (fun W o hh=>hh) whole24 (by simp[gs24]) (by omega) (by simp[two])).mono fun x w' ⟨h1,l,pl,h2,h3,h4,h5,h6⟩=>⟨h1,h6.imp fun l' _ e=>by
   subst h3;rw[e,Zq4 h5]⟩
 have gl:Below w.heap.size w w2:=g5.below0;have gx:=Hd gl;clear g5 g7 g9 gl gn;go_wp2_with fail;refine gu.out.mono ?_;rintro x w' ⟨rfl,rfl⟩;go_wp2_with fail;refine(g6.out _ _ ((((Zad _ _).alloc (by simp) _).alloc (by simp;omega) _).alloc (by simp;omega) _) (Zw5 w2 _ _ _ (by simp) (by simp) (by simp))).mono ?_;rintro x w3 ⟨rfl,g0⟩;have g2:Hid (Below w2.heap.size w2 w3):=Hd (((((Zad w2 (.cells #[.int .i64 3,.int .i64 1] 3)).alloc (by simp) (.cells #[.int .i64 0] 3)).alloc (by simp;omega) (.cells #[.int .i64 2] 3)).alloc (by simp;omega) _).trans (g0.mono (by simp;omega)));clear g0;go_wp2_with fail;refine(g3.out _ _ [0,3,1,2] true (g2.out.trans ((Zad _ _).mono g2.out.size)) (Zga w3 [0,3,1,2] 4 rfl (by simp) _ rfl) (by simp) ⟨fun _=>Ztj,fun _=>rfl⟩).mono ?_;rintro x w4 ⟨rfl,gk⟩;have g1:Hid (Below w2.heap.size w2 w4):=Hd ((g2.out.trans ((Zad w3 _).mono g2.out.size)).trans (gk.mono (by have:=g2.out.size;simp;omega)));clear gk;go_wp2_with fail;refine(g3.out _ _ [1,3,0,2] false (g1.out.trans ((Zad _ _).mono g1.out.size)) (Zga w4 [1,3,0,2] 4 rfl (by simp) _ rfl) (by simp) ⟨(fun e=>by cases e),fun hk=>(Zvx hk).elim⟩).mono ?_;rintro x w5 ⟨rfl,gj⟩;have gw:Hid (Below w2.heap.size w2 w5):=Hd ((g1.out.trans ((Zad w4 _).mono g1.out.size)).trans (gj.mono (by have:=g1.out.size;simp;omega)));have gd:=Hd (go.out w5 gw.out);clear gj g6 g3 go g2 g1;go_wp2_with fail;refine gd.out.mono ?_;rintro x w6 ⟨rfl,gh⟩;have gm:=Hd (gh.order GrB.keep);clear gh gd;go_wp2_with fail;refine gm.out.mono ?_;rintro x w7 ⟨v,l,rfl,hl,hP,_,_,g8,_⟩;have gg:SliceIs w7 v [0,2,3,1]:=g8.know (Q:=fun W=>SliceIs W v [0,2,3,1]) fun W o hh=>by rw[<- hP];exact hh.2.slice
 have ge:=Hd g8.below0;have gt:=Hd gg;clear g8 hP gg gm;go_wp2_with fail;refine(Zlc (gt.out.below (Zad _ _)) (Zga w7 [0,2,3,1] 4 rfl (by simp) _ rfl) (by simp)).mono ?_;rintro x w8 ⟨rfl,gi⟩;have gv:Hid (Below w.heap.size w w8):=Hd ((ge.out.trans ((Zad w7 _).mono ge.out.size)).trans (gi.mono (by have:=ge.out.size;simp;omega)));clear gi;go_wp2_with fail;go_ret;exact⟨rfl,gv.out⟩
end Go.Proofs.YtkbegdkpboklpaaGreat

namespace Go.Proofs.YtkbegdkpboklpaaGreat
open Go.Proofs.Tryz
open Go.RowKit Go.Deep Go.ChangeShapes Go.WideShapes
theorem wfI {x:Int}(h:(Lit.int .i64 x).wf=true):okI x:=by
 unfold okI;simp only[Lit.wf,IntKind.min,IntKind.max,IntKind.signed,IntKind.bits,Bool.and_eq_true,decide_eq_true_eq,if_true] at h;omega
theorem Zj3 {b off:Nat}(k:Nat):(⟨b,off,none⟩:Addr).add k=⟨b,off+k,none⟩:=by unfold Addr.add;split<;>simp_all
theorem add0 (a:Addr):a.add 0=a:=by simp[Addr.add]
theorem Zfc {w:World}{a:Addr}{v:Value}(h:w.cell? a=some v):a.spot=none:=by
 obtain⟨b,off,spot⟩:=a;cases spot with
 | none=>rfl
 | some s=>simp[World.cell?] at h;split at h<;>simp at h
theorem Zu6 {n:Nat}{p:Nat->Ev->Prop}(h:∀ i,i<n->∃ x,p i x):∃ f:Nat->Ev,∀ i,i<n->p i (f i):=by
 classical
 refine⟨fun i=>if hi:i<n then Classical.choose (h i hi) else ⟨0,0,0⟩,fun i hi=>?_⟩;simp only[dif_pos hi];exact Classical.choose_spec (h i hi)
theorem Zkd {H:Type}{enc:TypeId×Value->H}{P:Program}{w:World}{base:Nat}{spare:Nat->Bool}{held:Bool}{t e:TypeId}{fuel:Nat}{cs:List Value}{x:DataW H×List MemPlace}(ht:P.underlying t=some (.slice e))(h:DataW.trod enc P w base spare held fuel t cs=some x) :
 cs=[.slice none 0 0]\/∃ (a:Addr) (len cap n:Nat),cs=[.slice (some a) len cap]/\len<=cap/\cap<=maxLen/\fuel=n+1/\∀ i,i<len->∃ cs' y,w.cells? base (a.add (i*P.cellsOf e)) (P.cellsOf e)=some cs'/\DataW.trod enc P w base spare held n e cs'=some y:=by
 rcases DataW.trod_slice ht h with ⟨h0,_⟩|⟨a,len,cap,elems,rest,n,hn,e1,_,_,hl,hm,g1,g0,_⟩
 . exact .inl h0
 . refine .inr ⟨a,len,cap,n,e1,hl,hm,hn,fun i hi=>?_⟩;have:=g0 i hi;rw[List.getElem?_eq_getElem (by omega)] at this;obtain⟨cs',h1,h2⟩:=Option.bind_eq_some_iff.1 this;exact⟨cs',_,h1,h2⟩
theorem open_expr {H:Type}{enc:TypeId×Value->H}{w:World}{base:Nat}{spare:Nat->Bool}{held:Bool}:∀ (fuel:Nat) {cs:List Value} {x:DataW H×List MemPlace},
 DataW.trod enc prog w base spare held fuel 81 cs=some x->∃ e x0 x1 x2,cs=[x0,x1,x2]/\Zbe w e (.agg #[x0,x1,x2]):=by
 intro fuel
 induction fuel using Nat.strongRecOn with
 | _ fuel IH =>
   intro cs x h;obtain⟨xs,k,hk,g8,g5,g6,hf⟩:=DataW.trod_struct underlying81 h;have c1:prog.cellsOf 3=1:=by kernel_rfl
   have c2:prog.cellsOf 36=1:=by kernel_rfl
   have c3:prog.cellsOf 81=3:=by kernel_rfl
   rw[c3] at g5
   match xs,g6,cs,g5 with
   | [y0,y1,y2],_,[v0,v1,v2],_ =>
     have g0:=hf 0 _ rfl;have g1:=hf 1 _ rfl;have g2:=hf 2 _ rfl;simp[c1,c2] at g0 g1 g2;obtain⟨n0,e0,_,w0⟩:=DataW.trod_int underlying3 g0;obtain⟨n1,e1,_,w1⟩:=DataW.trod_int underlying3 g1;simp only[List.cons.injEq,and_true] at e0 e1;subst e0 e1;rcases Zkd underlying36 g2 with e2|⟨a,len,cap,n,e2,hl,hm,g9,hx⟩
     . simp only[List.cons.injEq,and_true] at e2;subst e2;exact⟨.mk n0 n1 0 (fun _=>.nil),_,_,_,rfl,by unfold Zbe;exact⟨none,0,rfl,wfI w0,wfI w1,by omega,fun k hk=>by omega⟩⟩
     .
      simp only[List.cons.injEq,and_true] at e2;subst e2;have each:∀ i,i<len->∃ q:ExT,∃ x0 x1 x2,w.cell? (a.add (i*3))=some x0/\w.cell? ((a.add (i*3)).add 1)=some x1/\w.cell? ((a.add (i*3)).add 2)=some x2/\Zbe w q (.agg #[x0,x1,x2]):=by
       intro i hi;obtain⟨cs',y,h1,h2⟩:=hx i hi;rw[c3] at h1;obtain⟨_,g7,g3⟩:=World.cells?_some h1;obtain⟨e,x0,x1,x2,rfl,he⟩:=IH n (by omega) h2;have f0:=g3 0 (by omega);have f1:=g3 1 (by omega);have f2:=g3 2 (by omega);rw[add0] at f0;exact⟨e,x0,x1,x2,by simpa using f0,by simpa using f1,by simpa using f2,he⟩
      obtain⟨q,hq⟩:=choose_lt each;refine⟨.mk n0 n1 len q,_,_,_,rfl,?_⟩;unfold Zbe;refine⟨some a,cap,rfl,wfI w0,wfI w1,by unfold maxLen at hm;omega,fun i hi=>?_⟩;obtain⟨x0,x1,x2,f0,f1,f2,he⟩:=hq i hi;have g4:a.spot=none:=by
       obtain⟨_,_,_,q0,_⟩:=hq 0 (by omega);have:=Zfc q0;simpa [Addr.add] using this
      obtain⟨b,off,spot⟩:=a;dsimp only at g4;subst g4;simp only[Zj3] at f0 f1 f2;exact⟨b,off,x0,x1,x2,rfl,f0,f1,f2,he⟩
theorem Zt1 {H:Type}{enc:TypeId×Value->H}{w:World}{base:Nat}{spare:Nat->Bool}{held:Bool}{fuel:Nat}{cs:List Value}{x:DataW H×List MemPlace}
 (h:DataW.trod enc prog w base spare held fuel 36 cs=some x):∃ a l cap,cs=[.slice a l.length cap]/\Zki w a l:=by
 have c3:prog.cellsOf 81=3:=by kernel_rfl
 rcases Zkd underlying36 h with e2|⟨a,len,cap,n,e2,hl,hm,g4,hx⟩
 . exact⟨none,[],0,e2,⟨by simp,fun k hk=>by simp at hk⟩⟩
 .
  subst e2;have each:∀ i,i<len->∃ q:ExT,∃ x0 x1 x2,w.cell? (a.add (i*3))=some x0/\w.cell? ((a.add (i*3)).add 1)=some x1/\w.cell? ((a.add (i*3)).add 2)=some x2/\Zbe w q (.agg #[x0,x1,x2]):=by
   intro i hi;obtain⟨cs',y,h1,h2⟩:=hx i hi;rw[c3] at h1;obtain⟨_,g3,g0⟩:=World.cells?_some h1;obtain⟨e,x0,x1,x2,rfl,he⟩:=open_expr n h2;have f0:=g0 0 (by omega);have f1:=g0 1 (by omega);have f2:=g0 2 (by omega);rw[add0] at f0;exact⟨e,x0,x1,x2,by simpa using f0,by simpa using f1,by simpa using f2,he⟩
  obtain⟨q,hq⟩:=choose_lt each;refine⟨some a,(List.range len).map q,cap,by simp,⟨by unfold maxLen at hm;simp;omega,fun i hi=>?_⟩⟩;have g2:i<len:=by simpa using hi
  obtain⟨x0,x1,x2,f0,f1,f2,he⟩:=hq i g2;have g1:a.spot=none:=by
   obtain⟨_,_,_,q0,_⟩:=hq 0 (by omega);have:=Zfc q0;simpa [Addr.add] using this
  obtain⟨b,off,spot⟩:=a;dsimp only at g1;subst g1;simp only[Zj3] at f0 f1 f2;exact⟨b,off,x0,x1,x2,rfl,f0,f1,f2,by simpa using he⟩
theorem open_evs {H:Type}{enc:TypeId×Value->H}{w:World}{base:Nat}{spare:Nat->Bool}{held:Bool}{fuel:Nat}{cs:List Value}{x:DataW H×List MemPlace}
 (h:DataW.trod enc prog w base spare held fuel 37 cs=some x):∃ a l cap,cs=[.slice a l.length cap]/\EvsAt w a l/\(∀ ev∈l,okI ev.after/\okI ev.kind/\okI ev.level)/\(a=none->cap=0)/\l.length<=cap/\cap<=maxLen:=by
 have c1:prog.cellsOf 3=1:=by kernel_rfl
 have c3:prog.cellsOf 120=3:=by kernel_rfl
 rcases Zkd underlying37 h with e2|⟨a,len,cap,n,e2,hl,hm,ga,hx⟩
 . exact⟨none,[],0,e2,⟨by simp,fun k hk=>by simp at hk⟩,by simp,fun _=>rfl,by simp,by simp⟩
 .
  subst e2;have each:∀ i,i<len->∃ q:Ev,w.cell? (a.add (i*3))=some (.int .i64 q.after)/\w.cell? ((a.add (i*3)).add 1)=some (.int .i64 q.kind)/\w.cell? ((a.add (i*3)).add 2)=some (.int .i64 q.level)/\okI q.after/\okI q.kind/\okI q.level:=by
   intro i hi;obtain⟨cs',y,h1,h2⟩:=hx i hi;rw[c3] at h1;obtain⟨_,g5,g3⟩:=World.cells?_some h1;obtain⟨xs,k,hk,g9,_,g6,hf⟩:=DataW.trod_struct underlying120 h2
   match xs,g6,cs',g5 with
   | [y0,y1,y2],_,[v0,v1,v2],_ =>
     have g0:=hf 0 _ rfl;have g1:=hf 1 _ rfl;have g2:=hf 2 _ rfl;simp[c1] at g0 g1 g2;obtain⟨n0,e0,_,w0⟩:=DataW.trod_int underlying3 g0;obtain⟨n1,e1,_,w1⟩:=DataW.trod_int underlying3 g1;obtain⟨n2,e2,_,w2⟩:=DataW.trod_int underlying3 g2;simp only[List.cons.injEq,and_true] at e0 e1 e2;subst e0 e1 e2;have f0:=g3 0 (by omega);have f1:=g3 1 (by omega);have f2:=g3 2 (by omega);rw[add0] at f0;exact⟨⟨n0,n1,n2⟩,by simpa using f0,by simpa using f1,by simpa using f2,wfI w0,wfI w1,wfI w2⟩
  obtain⟨q,hq⟩:=Zu6 each;refine⟨some a,(List.range len).map q,cap,by simp,⟨by unfold maxLen at hm;simp;omega,fun i hi=>?_⟩,?_,by simp,by simpa using hl,hm⟩
  .
   have g7:i<len:=by simpa using hi
   obtain⟨f0,f1,f2,_⟩:=hq i g7;have g4:a.spot=none:=by
    obtain⟨q0,_⟩:=hq 0 (by omega);have:=Zfc q0;simpa [Addr.add] using this
   obtain⟨b,off,spot⟩:=a;dsimp only at g4;subst g4;simp only[Zj3] at f0 f1 f2;exact⟨b,off,rfl,by simpa using f0,by simpa using f1,by simpa using f2⟩
  . intro ev g8;obtain⟨i,hi,rfl⟩:=List.mem_map.1 g8;exact(hq i (by simpa using hi)).2.2.2
theorem open_ask {H:Type}{enc:TypeId×Value->H}{w:World}{base:Nat}{held:Bool}{fuel:Nat}{v:Value}{cs:Array Value}{x:DataW H×List MemPlace}(hv:v=.agg cs)
 (h:DataW.trod enc prog w base (fun _=>true) held fuel 39 v.cells.toList=some x):∃ q ao ae ap co ce cp,v=askV q ao ae ap co ce cp/\AskAt w q ao ae ap/\(∀ ev∈q.plan,okI ev.after/\okI ev.kind/\okI ev.level)/\(ao=none->co=0)/\(ap=none->cp=0)/\q.plan.length<=cp/\cp<=maxLen:=by
 subst hv;obtain⟨xs,k,hk,gi,g5,g7,hf⟩:=DataW.trod_struct underlying39 h;have c1:prog.cellsOf 3=1:=by kernel_rfl
 have c2:prog.cellsOf 23=1:=by kernel_rfl
 have c4:prog.cellsOf 36=1:=by kernel_rfl
 have c5:prog.cellsOf 37=1:=by kernel_rfl
 have c3:prog.cellsOf 39=4:=by kernel_rfl
 rw[c3] at g5;obtain⟨cl⟩:=cs;simp only[Value.cells] at g5 hf
 match xs,g7,cl,g5 with
 | [y0,y1,y2,y3],_,[v0,v1,v2,v3],_ =>
   have g0:=hf 0 _ rfl;have g1:=hf 1 _ rfl;have g2:=hf 2 _ rfl;have g3:=hf 3 _ rfl;simp[c1,c2,c4,c5] at g0 g1 g2 g3;obtain⟨n0,e0,_,w0⟩:=DataW.trod_int underlying3 g0;simp only[List.cons.injEq,and_true] at e0;subst e0;obtain⟨ao,zs,co,e1,gf,gc⟩:∃ a zs c,v1=.slice a zs.length c/\Za4 w a zs/\(a=none->c=0):=by
    rcases open_ints underlying23 underlying3 (by kernel_rfl) g1 with ⟨g4,_⟩|⟨x,l,c,zs,g4,_,hl,hm,hz,_,g6,g8⟩
    . simp at g4;subst g4;obtain⟨a,c,e,h1,h2⟩:=sliceIs_of_row (w:=w) (a:=none) (len:=0) (cap:=0) (.inl ⟨rfl,rfl,rfl,rfl⟩);exact⟨a,_,c,e,h1,h2⟩
    . simp at g4;subst g4;obtain⟨a,c,e,h1,h2⟩:=sliceIs_of_row (w:=w) (.inr ⟨_,rfl,hl,hm,by simpa using hz,g6,g8⟩);exact⟨a,_,c,e,h1,h2⟩
   obtain⟨ae,es,ce,e2,gh⟩:=Zt1 g2;obtain⟨ap,evs,cp,e3,gg,g9,ga,ge,gd⟩:=open_evs g3;simp only[List.cons.injEq,and_true] at e2 e3;subst e1 e2 e3;exact⟨⟨n0,zs,es,evs⟩,ao,ae,ap,co,ce,cp,rfl,⟨wfI w0,gf,gh,gg⟩,g9,gc,ga,ge,gd⟩
end Go.Proofs.YtkbegdkpboklpaaGreat

namespace Go.Proofs.YtkbegdkpboklpaaGreat
open Go.Proofs.Tryz
open Go.RowKit Go.Deep Go.ChangeShapes Go.WideShapes
theorem open_ints2 {H:Type}{enc:TypeId×Value->H}{w:World}{base b0:Nat}{held:Bool}{r:Reach}{v:Value}{d:DataW H}{ps:List MemPlace}(hval:Value.okWide prog w r b0 22 v)(hd:DataW.Trod enc prog w base (fun _=>true) held 22 v d ps) :
 ∃ gs:List (List Int),SlsC w v gs:=by
 obtain⟨a,len,cap,rfl⟩:=okWide_slice underlying22 hval;obtain⟨fuel,hf⟩:=hd;have c1:prog.cellsOf 23=1:=by kernel_rfl
 rcases Zkd underlying22 hf with e2|⟨a',len',cap',n,e2,hl,hm,g7,hx⟩
 . simp[Value.cells] at e2;obtain⟨rfl,rfl,rfl⟩:=e2;exact⟨[],none,0,[],rfl,fun _=>rfl,by simp,Zdx.nil _,fun i hi=>by simp at hi,fun x hx=>by simp at hx⟩
 .
  simp[Value.cells] at e2;obtain⟨rfl,rfl,rfl⟩:=e2;have each:∀ i,i<len->∃ q:Value×List Int,w.cell? (a'.add i)=some q.1/\SliceIs w q.1 q.2/\Zz5 q.1:=by
   intro i hi;obtain⟨cs',y,h1,h2⟩:=hx i hi;rw[c1,Nat.mul_one] at h1;obtain⟨_,g3,g1⟩:=World.cells?_some h1
   match cs',g3 with
   | [v0],_ =>
     have f0:=g1 0 (by omega);rw[add0] at f0;have f0':w.cell? (a'.add i)=some v0:=by simpa using f0
     rcases open_ints underlying23 underlying3 (by kernel_rfl) h2 with ⟨g0,_⟩|⟨x,l,c,zs,g0,_,hl,hm,hz,_,g6,g4⟩
     .
      have e:v0=.slice none 0 0:=by simpa using g0
      subst e;exact⟨(.slice none 0 0,[]),f0',Zge w,Nat.le_refl _,Nat.zero_le _⟩
     .
      have e:v0=.slice (some x) l c:=by simpa using g0
      subst e;exact⟨(.slice (some x) l c,zs.take l),f0',sliceIs_of_row (.inr ⟨_,rfl,hl,hm,by simpa using hz,g6,g4⟩),hl,hm⟩
  obtain⟨q,hq⟩:∃ q:Nat->Value×List Int,∀ i,i<len->w.cell? (a'.add i)=some (q i).1/\SliceIs w (q i).1 (q i).2/\Zz5 (q i).1:=by
   classical
   refine⟨fun i=>if hi:i<len then Classical.choose (each i hi) else (.slice none 0 0,[]),fun i hi=>?_⟩;simp only[dif_pos hi];exact Classical.choose_spec (each i hi)
  refine⟨(List.range len).map fun i=>(q i).2,some a',cap,(List.range len).map fun i=>(q i).1,by simp,fun e=>(by cases e),by unfold maxLen at hm;simp;omega,⟨by simp,fun i h1 h2=>?_⟩,fun i hi=>?_,fun x hx=>?_⟩
  .
   have hi:i<len:=by simpa using h1
   simp only[List.getElem_map,List.getElem_range];exact(hq i hi).2.1
  .
   have g5:i<len:=by simpa using hi
   have f0:=(hq i g5).1;have g2:a'.spot=none:=by
    have q0:=(hq 0 (by omega)).1;have:=Zfc q0;simpa [Addr.add] using this
   obtain⟨b,off,spot⟩:=a';dsimp only at g2;subst g2;simp only[Zj3] at f0;exact⟨b,off,rfl,by simpa using f0⟩
  . obtain⟨i,hi,rfl⟩:=List.mem_map.1 hx;exact(hq i (List.mem_range.1 hi)).2.2
end Go.Proofs.YtkbegdkpboklpaaGreat
