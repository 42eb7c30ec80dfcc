/- Several texts in one file: contracts of the program's functions and what follows from them. -/
import Derived.Test.YtkidaindpahefaaGreatX7
import Derived.Test.YtkidaindpahefaaGreatX0
import Derived.Deep.WholeRow
import Derived.Shelf.Spec.SlicesInsert
import Derived.Ground.Names2Prog
import Derived.Test.YtkidaindpahefaaGreatProg
import Derived.Maps.OwnIn
set_option linter.unusedSimpArgs false
set_option linter.unusedVariables false
set_option linter.unusedSectionVars false
set_option linter.unnecessarySimpa false
set_option maxRecDepth 100000
set_option maxHeartbeats 8000000
namespace Go.Proofs.YtkidaindpahefaaGreat
open Go.Proofs.Tryz
open Go.RowKit
variable {B B':Wd->Own->Prop}{C D:Nat->Prop}{F G:BF}{Fs Gs:List BF}{K:Law}{P:Program}{P':List Nat->Prop}{Q:Exit->Act->Wd->Prop}{S:Wd->Prop}{W W' W1 w w' w0 wb:Wd}{a:Act}{args cs lop:Array Value}{b base c cap g gf i j k lv mb n room wd:Nat}{cur ks vs zs:List Int}{fs r:List (Int×BF)}{gs:List (List Int)}{last:Bool}{nx:Int}{o' o0:Own}{ops:Array Oper}{os pl:List Nat}{t:TypeId}{u v:Value}{ws0:List Ev}
section
variable {x:Value}
theorem Ui (hi:i<Gs.length):nodesF n os (Gs.take (i+1))=belF n os n (nodesF n os (Gs.take i)) Gs[i]:=by
 unfold nodesF;rw[Vz hi,Xt];rfl
theorem Nn:∀ i,i<=Gs.length->(nodesF n os (Gs.take i)).length<=i*2^n
 | 0,_=>by simp[nodesF]
 | i+1,hi=>by
   have h1:=Nn i (by omega);rw[Ui (by omega)];have h2:=IV n os n (nodesF n os (Gs.take i)) (Gs[i]'(by omega));rw[Nat.succ_mul];omega
end
noncomputable def szO (n:Nat)(Fs:List BF)(zs:List Int):Nat:=(nodesF n (zs.map Int.toNat) Fs).length
theorem Jj (n:Nat)(Fs:List BF)(zs:List Int):szO n Fs zs<=Fs.length*2^n:=by
 have h:=Nn (n:=n) (os:=zs.map Int.toNat) (Gs:=Fs) Fs.length (Vu _);rw[Wb] at h;exact h
theorem Uj (l:List Nat):(l.map Int.ofNat).map Int.toNat=l:=by
 rw[Xa];exact(List.map_congr_left fun z _=>rfl).trans (List.map_id _)
def ArgB (w0:Wd)(a:Option Addr)(ks:List Int):Wd->Own->Prop:=fun W o=>ArgI w0 W o a ks
theorem ArgB.keep {a:Option Addr}:AA (ArgB w0 a ks):=fun W o W' o' h hc =>
 ⟨⟨h.z.len,fun j hj=>by
  obtain⟨b,off,e,hcl⟩:=h.z.cells j hj;have:=h.own _ e;exact⟨b,off,e,Co hcl (hc.block b this.1 this.2.2 (fun e=>e))⟩⟩,fun x hx=>⟨VJ (h.own x hx).1 hc.size,(h.own x hx).2.1,hc.none' (h.own x hx).1 (h.own x hx).2.2⟩⟩
section
variable {P:List Nat->Prop}
theorem FxO.size (hB:AA B)(h:FxO K n room w0 mb ws0 C o0 wb B (fun l=>l.map Int.ofNat=zs) fs nx W){a:Option Addr}(hl:∀ W o,B W o->ArgI w0 W o a ks)(hlen:Fs.length=ks.length)(hm:∀ i (h:i<ks.length),(ks[i],Fs[i]'(by omega))∈fs) :
 Cl 65 #[Pt mb,.slice a ks.length c] W fun x w'=>x=.returned (.tuple #[Iv (szO n Fs zs:Nat),Iv 0])/\FxO K n room w0 mb ws0 C o0 wb B (fun l=>l.map Int.ofNat=zs) fs nx w':=by
 obtain⟨o,m,V,h1,h2,h3,h4⟩:=h;refine(Ue (c:=c) h3 (hl _ _ h4) hlen hm).mono ?_;rintro x w' ⟨rfl,o',m',V',q1,q2,q3,q4⟩;refine⟨?_,o',m',V',h1.trans q1 NoB.sub,by rw[q2];exact h2,q4,hB _ _ _ _ h4 q1⟩;have e:zs.map Int.toNat=m.d.vars:=by rw[<- h3.od,Uj]
 unfold szO;rw[e]
theorem FxO.wrC (h:FxO K n room w0 mb ws0 C o0 wb B P fs nx W)(hw:Wr D W W')(hDC:∀ k,D k->C k\/wb.heap.size<=k)(hs0:∀ k,D k->w0.heap.size<=k)(hno:∀ o,B W o->∀ k,D k->o k=none)(hB:∀ o,Ac o W->B W o->B' W' o):FxO K n room w0 mb ws0 C o0 wb B' P fs nx W':=by
 obtain⟨o,m,V,h1,h2,h3,h4⟩:=h;exact⟨o,m,V,h1.trans (ChgX.of_wr (C:=D) hw o (fun _ _ q=>q)) (fun k hk q=>(hDC k q).resolve_right (by omega)),h2,h3.other hw (fun k _ q=>⟨hs0 k q,hno o h4 k q⟩),hB o h3.lt h4⟩
theorem FxO.sizes (h:FxO K n room w0 mb ws0 C o0 wb B P fs nx W):wb.heap.size<=W.heap.size/\w0.heap.size<=W.heap.size:=by
 obtain⟨o,m,V,h1,_,h3,_⟩:=h;exact⟨h1.size,h3.chg.size⟩
end
theorem No (h:SliceIs w v zs)(hlen:zs.length<1000000) :
 Cl 96 #[v] w fun e w'=>∃ v',e=.returned v'/\OwnI w' w.heap.size v' zs/\Bw w w':=by
 obtain⟨a,c,rfl,hz,hn⟩:=h;have HZ:=Hd hz;have q22:∀ (w:Wd) (a:Option Addr) (n c:Nat),(binOp .eql 22 (.slice a n c) (.slice none 0 0)).run prog w=.ok (.bool a.isNone) w:=fun w a n c=>Lib.run_eql_slice_nil w _ _ a n c 0 0 rfl
 cases a with
 | none =>
   have g2:zs=[]:=by
    cases zs with
    | nil=>rfl
    | cons x r=>obtain⟨b,off,e,_⟩:=hz.cells 0 (by simp);cases e
   subst g2;obtain rfl:=hn rfl;clear hz hn HZ
   go_enter func96,ntmps96
   go_wp2_with fail;go_ret;exact⟨_,rfl,Ey _ _,VI _ _⟩
 | some p =>
   clear hz
   go_enter func96,ntmps96
   go_wp2_with (at_builtin;refine De rfl _ _ rfl w.heap.size w _ [] zs (some p) c rfl rfl (Ew w w.heap.size (Vu _)) (HZ.o.below (Ah _ _)) (by simp;omega) (by simp) (Ah _ _) (fun e=>by cases e) ?_;intro v1 w1 g0 g1 g3 g4);go_ret;exact⟨_,rfl,by simpa using g0,g1⟩
theorem Uk:(prog.info? 3).map (fun i=>i.size)=some 1:=by kernel_rfl
theorem Ul (args:Array Value)(w:Wd):(callFunc 99 args).run prog w=.ok (.enter 99 args) w:=XS func99 (by kernel_rfl) rfl args w
def winZ (zs vs:List Int)(lv:Nat)(p:List Int):List Int:=zs.take lv++p.map (fun x=>at0 vs x.toNat)++zs.drop (lv+p.length)
theorem Um {p:List Int}(h:lv+p.length<=zs.length):(winZ zs vs lv p).length=zs.length:=by
 simp[winZ];omega
theorem Un :winZ zs vs lv []=zs:=by simp[winZ]
theorem Uo {p:List Int}(hi:i<p.length)(h:lv+p.length<=zs.length):(winZ zs vs lv (p.take i)).set (lv+i) (at0 vs (at0 p i).toNat)=winZ zs vs lv (p.take (i+1)):=by
 unfold winZ;have l1:(p.take i).length=i:=by simp;omega
 have l2:(p.take (i+1)).length=i+1:=by simp;omega
 have lA:(zs.take lv++(p.take i).map fun x=>at0 vs x.toNat).length=lv+i:=by simp;omega
 rw[l1,l2,X8 _ _ (by omega),lA,Nat.sub_self,Vz hi,VU,<- VH,VH (zs.take lv++_)];congr 1;rw[VT (show lv+i<zs.length by omega),As hi];rfl
structure W22C where
 bn:Nat
 bw:Nat
 bv:Nat
 br:Nat
 bl:Nat
def W22C.caps (c:W22C):Array Value:=#[Pt c.bn,Pt c.bw,Pt c.bv,Pt c.br,Pt c.bl]
structure W22S (c:W22C)(zs vs:List Int)(lv wd:Nat)(L:List (List Int))(W:Wd):Prop where
 now:∃ v,W.cell? (Av c.bn)=some v/\SliceIs W v zs
 wide:W.cell? (Av c.bw)=some (Iv (wd:Nat))
 vars:∃ v,W.cell? (Av c.bv)=some v/\SliceIs W v vs
 rows:∀ i,i<96->W.cell? (Aw c.br i)=some (Iv (rowV L i))
 lev:W.cell? (Av c.bl)=some (Iv (lv:Nat))
theorem W22S.below {c:W22C}{zs vs:List Int}{lv wd:Nat}{L:List (List Int)}{W W':Wd}(h:W22S c zs vs lv wd L W)(hb:Bw W W'):W22S c zs vs lv wd L W':=by
 obtain⟨v,h1,h2⟩:=h.now;obtain⟨u,h3,h4⟩:=h.vars;exact⟨⟨v,(hb.cell (Af h1)).trans h1,h2.below hb⟩,(hb.cell (Af h.wide)).trans h.wide,⟨u,(hb.cell (Af h3)).trans h3,h4.below hb⟩,fun i hi=>(hb.cell (Af (h.rows i hi))).trans (h.rows i hi),(hb.cell (Af h.lev)).trans h.lev⟩
theorem Up {c:W22C}{p:List Int}{L:List (List Int)}(h:W22S c zs vs lv wd L W)(hk:k<24)(hp:L.getD k []=p)(hpl:p.length=wd)(hw4:wd<=4)(hw1:1<=wd)(hpm:∀ x∈p,0<=x/\x<(wd:Int))(hvl:vs.length=wd)(hz:lv+wd<=zs.length)(hzs:zs.length<=64) :
 Cl 99 (#[Iv (k:Nat)]++c.caps) W fun x w'=>∃ u,x=.returned u/\OwnI w' W.heap.size u (winZ zs vs lv p)/\Bw W w':=by
 obtain⟨bn,bw,bv,br,bl⟩:=c;obtain⟨vn,n1,n2⟩:=h.now;have w1:=h.wide;have ge:=Hd (No n2 (by omega));have gi:Hq (∀ W',Bw W W'->∀ i,i<wd->∃ (q:Nat) (b off cv:Nat),q<wd/\W'.cell? (Aw br (k*4+i))=some (Iv (q:Nat))/\W'.cell? (Av bv)=some (.slice (some (Aw b off)) wd cv)/\W'.cell? (Aw b (off+q))=some (Iv (at0 vs (at0 p i).toNat))/\W'.cell? (Av bl)=some (Iv (lv:Nat))/\bv<W.heap.size/\br<W.heap.size/\bl<W.heap.size/\b<W.heap.size):=Hd fun W' hb i hi=>by
  have h':=h.below hb;have hr:=h'.rows (k*4+i) (by omega);have er:rowV L (k*4+i)=at0 p i:=by
   unfold rowV;rw[show (k*4+i)/4=k by omega,show (k*4+i)%4=i by omega,hp]
  rw[er] at hr;have hm:=hpm (at0 p i) (by rw[As (show i<p.length by omega)];exact VG _);obtain⟨u,h3,cu,⟨cv,rfl,h5,_⟩⟩:=h'.vars;obtain⟨u0,g5,cu0,⟨cv0,e0,gf,_⟩⟩:=h.vars;have e1:=(hb.cell (Af g5)).trans g5;rw[h3] at e1;have e2:=Xp e1;rw[e0] at e2;injection e2 with e2
  subst e2;obtain⟨b,off,e3,h6⟩:=h5.cells (at0 p i).toNat (by omega);obtain⟨b',off',e4,h7⟩:=gf.cells (at0 p i).toNat (by omega);subst e3;cases e4;rw[hvl] at h3;exact⟨(at0 p i).toNat,b,off,cv,by omega,by rw[hr];congr 2;omega,h3,h6,h'.lev,Af g5,Af (h.rows 0 (by omega)),Af h.lev,Af h7⟩
 have gh:Hq (∀ W',Bw W W'->W'.cell? (Av bw)=some (Iv (wd:Nat))):=Hd fun W' hb=>(h.below hb).wide
 obtain⟨Z,hZ⟩:=Ex (fun i=>winZ zs vs lv (p.take i):Nat->List Int)
 have g7:Hq (Z 0=zs):=Hd (by rw[hZ];show winZ zs vs lv (p.take 0)=zs;rw[List.take_zero];exact Un);have gc:Hq (Z wd=winZ zs vs lv p):=Hd (by rw[hZ];show winZ zs vs lv (p.take wd)=_;rw[<- hpl,Wb]);have gg:Hq (∀ i,i<wd->(Z i).set (lv+i) (at0 vs (at0 p i).toNat)=Z (i+1)):=Hd fun i hi=>by rw[hZ];exact Uo (by omega) (by omega)
 have g2:Hq (∀ i,i<=wd->(Z i).length=zs.length):=Hd fun i hi=>by rw[hZ];exact Um (by simp;omega)
 rw[<- gc.o];obtain⟨N,hN⟩:=Ex zs.length;rw[<- hN] at g2 hz hzs;have gp:(k:Int)<24:=by omega
 unfold W22C.caps
 show Calls _ _ #[_,_,_,_,_,_] _ _
 dsimp only at n1 w1;clear h n2 hp hpl hpm hvl hZ gc hN
 go_enter func99,ntmps99
 go_wp2_with fail;refine ge.o.mono ?_;rintro x w2 ⟨u,rfl,ho,hb⟩;have ga:0<zs.length:=by have:=g2.o 0 (by omega);rw[g7.o] at this;omega
 obtain⟨g,cap,rfl,hg,_⟩:=ho.shape ga;have g9:zs.length=N:=by have:=g2.o 0 (by omega);rw[g7.o] at this;exact this
 rw[g9] at ho ⊢;have HO:Hq (OwnI w2 W.heap.size (.slice (some (Av g)) N cap) (Z 0)):=Hd (by rw[g7.o];exact ho);have HB:=Hd hb;have w2c:=gh.o w2 hb;clear ho hb ge n1 w1 ga g9;go_wp2_with fail
 go_loopw [9,13] (fun _ s13 wr=>∃ i:Nat,i<=wd/\s13=Iv (i:Nat)/\Hq (OwnI wr W.heap.size (.slice (some (Av g)) N cap) (Z i))/\Hq (Bw W wr)) (fun _ s13 _=>wd-(intOf s13).toNat)
 case atStart=>exact⟨0,VC _,rfl,HO,HB⟩
 case round =>
  obtain⟨i,hi,rfl,g1,g8⟩:=hrel;clear HO HB w2c
  by_cases g4:i<wd
  ·obtain⟨q,b,off,cv,hq,r1,r2,r3,r4,l1,l2,l3,l4⟩:=gi.o wr g8.o i g4;obtain⟨y,hy⟩:=Ex (at0 vs (at0 p i).toNat);have g6:=gg.o i g4;rw[<- hy] at r3 g6;have gq:(i:Int)<(wd:Int):=by omega
   have gr:(i:Int)<4:=by omega
   have gl:(q:Int)<(wd:Int):=by omega
   have gm:(lv:Int)+(i:Int)<(N:Int):=by omega
   have go:0<=(lv:Int)+(i:Int):=by omega
   have gn:IntKind.i64.wrap ((lv:Int)+(i:Int))=(lv:Int)+(i:Int):=Xf _ (by omega);have gk:((lv:Int)+(i:Int)).toNat=lv+i:=by omega
   have ca:wr.drew.cell? (Aw g (lv+i))=some (Iv (at0 (Z i) (lv+i))):=g1.o.cell (lv+i) (by rw[g2.o i hi];omega);have fa:wr.drew.frozen? (Aw g (lv+i))=false:=g1.o.frozen (lv+i);have g3:=DO (P:=prog) Uk ca fa (v:=Iv y) rfl rfl;obtain⟨w6,g0⟩:∃ w,w=wr.drew.setCell (Aw g (lv+i)) (Iv y):=⟨_,rfl⟩;have gj:Hq (OwnI w6 W.heap.size (.slice (some (Av g)) N cap) (Z (i+1))):=Hd (by rw[g0,<- g6];exact(g1.o.drewN 1).stored (lv+i) y);have HB2:Hq (Bw W w6):=Hd (by rw[g0];exact(Cg g8.o 1).setCell hg _);have k1:w6.cell? (Aw br (k*4+i))=some (Iv (q:Nat)):=by rw[g0];exact BP r1 (.inl (by omega))
   have k2:w6.cell? (Av bv)=some (.slice (some (Aw b off)) wd cv):=by rw[g0];exact BP r2 (.inl (by omega))
   have k3:w6.cell? (Aw b (off+q))=some (Iv y):=by rw[g0];exact BP r3 (.inl (by omega))
   have k4:w6.cell? (Av bl)=some (Iv (lv:Nat)):=by rw[g0];exact BP r4 (.inl (by omega))
   have HK:=Hd (And.intro k1 (And.intro k2 (And.intro k3 k4)));rw[<- g0] at g3;have gd:=Hd g3;clear ca fa g3 g0 k1 k2 k3 k4 g6 hy l1 l2 l3 l4 g1;go_upto_region 5 with fail;refine FL [0,1,2,3,4,5,6,7,8,9,10,11,12] (fun W1=>W1.cell? (Aw br (k*4+i))=some (Iv (q:Nat))/\W1.cell? (Av bv)=some (.slice (some (Aw b off)) wd cv)/\W1.cell? (Aw b (off+q))=some (Iv y)/\W1.cell? (Av bl)=some (Iv (lv:Nat))) (fun _ _=>False) (fun _ _ _ _ h=>h.elim) (by kernel_rfl) ⟨r1,r2,r3,r4⟩ ?_
   iterate 13
    refine Ed rfl rfl (by kernel_rfl) ?_;apply Exists.intro;refine⟨fun w' hw=>?_,?_⟩
    . obtain⟨q1,q2,q3,q4⟩:=hw;go_simp;rfl
    simp only[Ab]
   refine Lg (pl:=[]) (w':=w6) (i:=13) rfl (by kernel_rfl) rfl rfl (by go_simp<;>exact gd.o) HK.o ?_;simp only[Ab];refine FM (by kernel_rfl) ?_;clear gd HK r1 r2 r3 r4;go_wp2_with fail;go_roundw
   case rel=>exact⟨i+1,g4,by go_num,gj,HB2⟩
   case measure=>simp[intOf];omega
  ·obtain rfl:i=wd:=by omega
   go_wp2_with fail;go_ret;exact⟨_,rfl,g1.o,g8.o⟩
def AU (zs:List Int)(m b:Nat):Prop:=b<m/\(∀ j,j<m->at0 zs b<=at0 zs j)/\∀ j,j<b->at0 zs b<at0 zs j
theorem Uq {a:Option Addr}(hz:Ar w a zs)(hp:0<zs.length)(hl:zs.length<=1000000) :
 Cl 101 #[.slice a zs.length c] w fun x w'=>∃ b:Nat,x=.returned (Iv (b:Nat))/\AU zs zs.length b/\w=w':=by
 obtain⟨L,hL⟩:=Ex zs.length;have HC:Hq (∀ i,i<L->∃ b off,a=some (Aw b off)/\w.cell? (Aw b (off+i))=some (Iv (at0 zs i))):=Hd fun i hi=>hz.cells i (by omega)
 rw[<- hL] at hp hl ⊢;clear hz hL
 go_enter func101,ntmps101
 go_wp2_with fail
 go_loopw [3,4,5,8] (fun s3 _ _ s8 wr=>∃ i b:Nat,i<=L/\s3=Iv (b:Nat)/\s8=Iv (i:Nat)/\wr=w/\b<L/\Hq (AU zs (max i 1) b)) (fun _ _ _ s8 _=>L-(intOf s8).toNat)
 case atStart=>exact⟨0,0,VC _,rfl,rfl,rfl,hp,Hd ⟨by omega,fun j hj=>by rw[show j=0 by omega];exact Yc _,fun j hj=>by omega⟩⟩
 case round =>
  obtain⟨i,b,hi,rfl,rfl,rfl,hb,HF⟩:=hrel
  by_cases g0:i<L
  ·obtain⟨bk,off,rfl,c1⟩:=HC.o i g0;obtain⟨bk2,off2,e,c2⟩:=HC.o b hb;injection e with e
   injection e with e1 e2
   subst e1 e2;have g1:(i:Int)<(L:Int):=by omega
   have g2:(b:Int)<(L:Int):=by omega
   obtain⟨x,hx⟩:=Ex (at0 zs i);obtain⟨y,hy⟩:=Ex (at0 zs b);rw[<- hx] at c1;rw[<- hy] at c2;have HX:=Hd hx;have HY:=Hd hy;clear hx hy
   by_cases h:x<y
   ·have HN:Hq (AU zs (max (i+1) 1) i):=Hd ⟨by omega,fun j hj=>by
     rw[<- HX.o]
     by_cases e:j=i
     . rw[e,<- HX.o];exact Yc _
     . have:=HF.o.2.1 j (by omega);rw[<- HY.o] at this;omega,fun j hj=>by
     have:=HF.o.2.1 j (by omega);rw[<- HY.o] at this;rw[<- HX.o];omega⟩
    clear HF;go_wp2_with fail;go_roundw
    case rel=>exact⟨i+1,i,g0,rfl,by go_num,(by first|rfl|trivial),g0,HN⟩
    case measure=>simp[intOf];omega
   ·have HN:Hq (AU zs (max (i+1) 1) b):=Hd ⟨by have:=HF.o.1;omega,fun j hj=>by
     by_cases e:j=i
     . rw[e,<- HX.o,<- HY.o];omega
     . exact HF.o.2.1 j (by omega),HF.o.2.2⟩
    clear HF;go_wp2_with fail;go_roundw
    case rel=>exact⟨i+1,b,g0,rfl,by go_num,(by first|rfl|trivial),hb,HN⟩
    case measure=>simp[intOf];omega
  ·obtain rfl:i=L:=by omega
   have HN:Hq (AU zs i b):=Hd (by have:=HF.o;rwa [Nat.max_eq_left hp] at this);clear HF;go_wp2_with fail;go_ret;exact⟨b,rfl,HN.o,rfl⟩
section
variable {lev:Int->Nat}
theorem Np (h:A7 zs=true)(hl:zs.length=n){x:Int}(hx:0<=x/\x<(n:Int)):x∈zs:=by
 obtain⟨k,hk,e⟩:=G2 h (x:=x.toNat) (by omega);rw[As hk] at e;have:zs[k]=x:=by rw[e];omega
 rw[<- this];exact VG _
end
def BxN (b:Nat)(v:Value)(t:TypeId)(W:Wd)(o:Own):Prop:=W.heap[b]?=some (.cells #[v] t (0,0))/\o b=none
section
variable {b':Nat}{t':TypeId}{o:Own}
theorem BxN.keep:AA (BxN b v t):=fun W o W' o' h hc=>by
 have hl:=(Vr.1 h.1).1;exact⟨(hc.block b hl h.2 (fun e=>e)).trans h.1,hc.none' hl h.2⟩
theorem BxN.cell (h:BxN b v t W o):W.cell? (Av b)=some v:=cell1 h.1
end
def BfB (o:Own)(W:Wd):Wd->Own->Prop:=fun W' o'=>ChgX NoB o o' W W'
theorem BfB.keep {o:Own}:AA (BfB o W):=fun _ _ _ _ h hc=>h.trans hc NoB.sub
theorem BfB.wr {o:Own}{W2:Wd}(h:BfB o W W1 o')(hw:Wr D W1 W2)(hD:∀ k,D k->W.heap.size<=k):BfB o W W2 o' :=
 h.trans (ChgX.of_wr (C:=D) hw o' (fun _ _ q=>q)) fun k hk q=>by have:=hD k q;omega
section
variable {P:List Nat->Prop}
theorem FxO.box (hB:AA B)(h:FxO K n room w0 mb ws0 C o0 wb B P fs nx W)(v:Value)(t:TypeId):FxO K n room w0 mb ws0 C o0 wb (fun W' o=>B W' o/\BxN W.heap.size v t W' o) P fs nx (W.alloc (.cells #[v] t)):=by
 obtain⟨o,m,V,h1,h2,h3,h4⟩:=h;have hb:=Ah W (.cells #[v] t);have hc:=ChgX.of_below hb o NoB;exact⟨o,m,V,h1.trans hc NoB.sub,h2,h3.below hb,hB _ _ _ _ h4 hc,Vv _ _,h3.lt.none (Vu _)⟩
end
def Jk (n:Nat)(l:List BF)(F:BF):Bool:=tabB n F == tabB n (fun _=>false)||tabB n F == tabB n (fun _=>true)||l.any fun G=>tabB n G == tabB n F||tabB n G == tabB n (notF F)
def belC (n:Nat)(os:List Nat):Nat->List BF->BF->List BF
 | 0,l,_=>l
 | k+1,l,F=>if Jk n l F then l else belC n os k (belC n os k (l++[F]) (cofF F (topR n F os).toNat false)) (cofF F (topR n F os).toNat true)
theorem Nq (h:DepF n F):DepF n (notF F):=fun ρ ρ' e=>by
 show (!F ρ) = !F ρ'
 rw[h ρ ρ' e]
theorem Er (hF:DepF n F)(hG:DepF n G):tabB n F=tabB n G↔F=G:=⟨IK hF hG,fun e=>by rw[e]⟩
theorem Ur {l:List BF}(hl:∀ G∈l,DepF n G)(h:DepF n F):Jk n l F=true↔(∃ c,F=fun _=>c)\/Bj l F:=by
 have hc:∀ b:Bool,DepF n fun _=>b:=fun b _ _ _=>rfl
 unfold Jk Bj;rw[XW,XW,List.any_eq_true,XP,XP,Er h (hc _),Er h (hc _)];refine or_congr ⟨fun h=>h.elim (fun e=>⟨false,e⟩) fun e=>⟨true,e⟩,fun⟨c,e⟩=>by cases c;exact .inl e;exact .inr e⟩ ?_;constructor
 . rintro⟨G,hG,e⟩;rw[XW,XP,XP,Er (hl G hG) h,Er (hl G hG) (Nq h)] at e;obtain⟨i,hi,rfl⟩:=WW hG;exact⟨i,hi,e⟩
 . rintro⟨i,hi,e⟩;refine⟨l[i],VG hi,?_⟩;rw[XW,XP,XP,Er (hl _ (VG hi)) h,Er (hl _ (VG hi)) (Nq h)];exact e
theorem Jl (n:Nat)(os:List Nat):∀ (k:Nat) (l:List BF) (F:BF),(∀ G∈l,DepF n G)->DepF n F->belC n os k l F=belF n os k l F
 | 0,l,F,_,_=>rfl
 | k+1,l,F,hl,h=>by
   have hs:=Ur hl h;have hl2:∀ G∈l++[F],DepF n G:=fun G hG=>by
    rcases VF.1 hG with h1|h1
    . exact hl G h1
    . rw[VB.1 h1];exact h
   unfold belC belF
   by_cases hc:(∃ c,F=fun _=>c)\/Bj l F
   . rw[Vw (hs.2 hc),Vw hc]
   . rw[Vs (fun e=>hc (hs.1 e)),Vs hc,Jl n os k (l++[F]) _ hl2 (Ca h _ _),Jl n os k _ _ (Gn n os k _ _ hl2 (Ca h _ _)) (Ca h _ _)]
def szC (n:Nat)(F:BF)(zs:List Int):Nat:=(belC n (zs.map Int.toNat) n [] F).length
theorem Nr (h:DepF n F):szO n [F]=szC n F:=by
 funext zs;unfold szC;rw[Jl n _ n [] F (fun G hG=>by cases hG) h];rfl
section
theorem FxS.var (hK:AO K)(hB:AA B)(h:FxS K n room w0 mb ws0 C o0 wb B fs nx W)(hn:nx<=549755813888)(hr:(fs.length+1)*2^n<=room){v:Nat}(hv:v<n) :
 Cl 93 #[Pt mb,Iv v] W fun x w'=>x=.returned (.tuple #[Iv nx,Iv 0])/\FxS K n room w0 mb ws0 C o0 wb B (fs++[(nx,varF v)]) (nx+1) w' :=
 h.new hB fun o m V hw hs=>(Tz hK hs hw hn hr hv).mono fun x w' ⟨e,o',m',V',q1,q2,q3⟩=>⟨e,o',m',V',q1,q2,q3⟩
def BxA (b:Nat)(cs:Array Value)(t:TypeId)(W:Wd)(o:Own):Prop:=W.heap[b]?=some (.cells cs t (0,0))/\o b=none
theorem BxA.keep :AA (BxA b cs t):=fun W o W' o' h hc=>by
 have hl:=(Vr.1 h.1).1;exact⟨(hc.block b hl h.2 (fun e=>e)).trans h.1,hc.none' hl h.2⟩
end
theorem Ut (x:Int)(w:Wd):Cl 138 #[Iv x] w (Sm (.bool false) w):=by
 go_enter func138,ntmps138
 go_wp2_with fail;go_ret;refine⟨by simp,rfl⟩
theorem Uu (x y:Int)(w:Wd):Cl 210 #[Iv x,Iv y] w (Sm (.bool (decide (x<y))) w):=by
 have H1:=Hd (fun z w=>Ut z w)
 go_enter func210,ntmps210
 go_wp2_with fail;refine(H1.o x w).mono ?_;rintro e w' ⟨rfl,rfl⟩;go_wp2_with fail;go_ret;exact⟨rfl,rfl⟩
theorem Ns (zs:List Int)(i:Int):(AC zs i).Perm zs:=by
 unfold AC;split
 ·rename_i h
  rw[As (show i.toNat<zs.length by omega),As (show i.toNat+1<zs.length by omega)];exact List.set_set_perm (by omega) (by omega)
 . exact List.Perm.refl _
theorem Nt {o:Oper}{r:List (Option Oper×Bool)}{f:FuncId}{R:Value->Wd->Prop}(hw:Region.wanted o (yielded ops a.tmps)=true)
 (he:(execOp a.eval o).run P w=.ok (.enter f args) w) (hc:Calls P f args w fun e w'=>∃ v,e=.returned v/\S w'/\R v w')
 (h:∀ v w',S w'->R v w'->A0 P ops Q S last r (a.put o.dst v) w'):A0 P ops Q S last ((some o,true)::r) a w:=by
 unfold A0;simp only[hw,Wy,Oper.wp,he,Oper.upon];exact hc.mono fun e w' ⟨v,h1,h2,h3⟩=>by subst h1;exact⟨.inr h2,h v w' h2 h3⟩
def Be (i:Nat)(c:List Int):Prop:=∀ p q,p<q->q<i->at0 c p<=at0 c q
theorem Uv (c:List Int):Be 1 c:=fun p q h1 h2=>by omega
def InsR (i j:Nat)(c:List Int):Prop:=(∀ p q,p<q->q<=i->p≠j->q≠j->at0 c p<=at0 c q)/\∀ q,j<q->q<=i->at0 c j<=at0 c q
theorem Be.ins {c:List Int}(h:Be i c):InsR i i c:=⟨fun p q h1 h2 _ h4=>h p q h1 (by omega),fun q h1 h2=>by omega⟩
theorem InsR.exit {c:List Int}(h:InsR i j c)(hj:j=0\/at0 c (j-1)<=at0 c j):Be (i+1) c:=fun p q h1 h2=>by
 by_cases hp:p=j
 . subst hp;exact h.2 q h1 (by omega)
 ·by_cases hq:q=j
  ·subst hq;rcases hj with rfl|hj
   . omega
   ·by_cases hp2:p=q-1
    . subst hp2;exact hj
    ·by_cases hqi:q<=i
     . exact Int.le_trans (h.1 p (q-1) (by omega) (by omega) hp (by omega)) hj
     . omega
  . exact h.1 p q h1 (by omega) hp hq
theorem InsR.step {c:List Int}(h:InsR i (k+1) c)(hl:k+1<c.length)(hlt:at0 c (k+1)<at0 c k)(hi:k+1<=i:=by omega):InsR i k (AC c (k:Int)):=by
 have e:∀ j,at0 (AC c (k:Int)) j=if j=k then at0 c (k+1) else if j=k+1 then at0 c k else at0 c j:=fun j=>DL hl
 refine⟨fun p q h1 h2 h3 h4=>?_,fun q h1 h2=>?_⟩
 ·rw[e,e,Vs h3,Vs h4]
  by_cases hp:p=k+1
  . rw[Vw hp,Vs (by omega)];exact h.1 k q (by omega) h2 (by omega) (by omega)
  ·rw[Vs hp]
   by_cases hq:q=k+1
   . rw[Vw hq];exact h.1 p k (by omega) (by omega) hp (by omega)
   . rw[Vs hq];exact h.1 p q h1 h2 hp hq
 ·rw[e,e,Vw rfl,Vs (by omega)]
  by_cases hq:q=k+1
  . rw[Vw hq];omega
  . rw[Vs hq];exact h.2 q (by omega) h2
theorem Uw (hown:OwnI W base (.slice (some (Av g)) n cap) cur)(hl:cur.length=n)(hn:n<=12)(eg:∀ args w,(callFunc gf args).run prog w=.ok (.enter gf args) w)(hcmp:∀ W1 x y,Wr (· = g) W W1->x∈cur->y∈cur->Calls prog gf (#[Iv x,Iv y]++lop) W1 fun e w'=>∃ z,e=.returned (Iv z)/\Bw W1 w') :
 Cl 185 #[.slice (some (Av g)) n cap,Iv 0,Iv (n:Nat),.func (.func gf) #[] lop] W fun e w'=>e=.returned (.tuple #[])/\∃ c2,(c2.Perm cur/\c2.length=n)/\OwnI w' base (.slice (some (Av g)) n cap) c2/\Wr (· = g) W w':=by
 obtain⟨P,hP⟩:=Ex (fun e w'=>e=.returned (.tuple #[])/\∃ c2,(c2.Perm cur/\c2.length=n)/\OwnI w' base (.slice (some (Av g)) n cap) c2/\Wr (· = g) W w':Ending->Wd->Prop)
 have gj:Hq (∀ w',(∃ c2,(c2.Perm cur/\c2.length=n)/\OwnI w' base (.slice (some (Av g)) n cap) c2/\Wr (· = g) W w')->P (.returned (.tuple #[])) w'):=Hd fun w' h=>by rw[hP];exact⟨rfl,h⟩
 have gc:Hq (∀ c1 W1,OwnI W1 base (.slice (some (Av g)) n cap) c1->∀ k,k+1<c1.length->OwnI ((W1.setCell (Aw g (k+1)) (Iv (at0 c1 k))).setCell (Aw g k) (Iv (at0 c1 (k+1)))) base (.slice (some (Av g)) n cap) (AC c1 (k:Int))):=Hd fun c1 W1 h k hk=>by
  rw[Fj hk,<- List.set_comm _ _ (by omega)];exact(h.stored (k+1) _).stored k _
 have H0:=Hd hown;have HL:=Hd hl;have HC:=Hd hcmp;rw[<- hP];clear hP hown hl hcmp
 go_enter func185,ntmps185
 go_wp2_with fail
 go_loopw [8,9] (fun s8 _ wr=>∃ (i:Nat) (c1:List Int),1<=i/\s8=Iv (i:Nat)/\(i<=n\/i=1)/\Hq (OwnI wr base (.slice (some (Av g)) n cap) c1)/\Hq (c1.Perm cur/\c1.length=n)/\Hq (Wr (· = g) W wr)) (fun s8 _ _=>n-(intOf s8).toNat)
 case atStart=>exact⟨1,cur,Vu _,rfl,.inr rfl,H0,Hd ⟨List.Perm.refl _,HL.o⟩,Hd (Wr.refl _ _)⟩
 case round =>
  obtain⟨i,c1,gx,rfl,gw,HO,HP,HW⟩:=hrel;obtain⟨wo,gk⟩:∃ w,w=wr:=⟨_,rfl⟩;subst gk;clear H0
  by_cases gq:i<n
  ·have gm:(i:Int)<(n:Int):=by omega
   go_wp2_with fail
   go_loopw [9] (fun s9 wr=>∃ (j:Nat) (c1:List Int),j<=i/\s9=Iv (j:Nat)/\Hq (OwnI wr base (.slice (some (Av g)) n cap) c1)/\Hq (c1.Perm cur/\c1.length=n)/\Hq (Wr (· = g) W wr)) (fun s9 _=>(intOf s9).toNat)
   case atStart=>exact⟨i,c1,Vu _,rfl,HO,Hd ⟨HP.o.1,HP.o.2⟩,HW⟩
   case round =>
    clear HO HP HW;obtain⟨j,c1,hj,rfl,HO,HP,HW⟩:=hrel;rcases j with _|k
    ·go_upto_region 4 with fail;refine AJ (fun W1:Wd=>Hq (W1=wr.drew)) false 17 [(0,false),(1,false),(2,false),(3,false),(4,false),(5,false),(6,false),(7,false),(8,false),(9,false),(10,false),(11,false),(12,false),(13,false),(14,true),(15,false),(16,false)] (by kernel_rfl) (by kernel_rfl) (Hd rfl) ?_;simp only[planned,AH];refine Aq rfl ?_;apply Exists.intro;refine⟨fun w' hw=>?_,?_⟩
     . clear hw;go_simp;rfl
     simp only[Ab];refine Aq rfl ?_;apply Exists.intro;refine⟨fun w' hw=>?_,?_⟩
     . clear hw;go_simp;rfl
     simp only[Ab];refine Aq rfl ?_;apply Exists.intro;refine⟨fun w' hw=>?_,?_⟩
     . clear hw;go_simp;rfl
     simp only[Ab];refine Aq rfl ?_;apply Exists.intro;refine⟨fun w' hw=>?_,?_⟩
     . clear hw;go_simp;rfl
     simp only[Ab];refine A9 false (by go_simp) ?_;refine Exists.intro undef (And.intro (fun g0=>absurd g0 (by simp)) ?_);simp only[Ab];refine A9 false (by go_simp) ?_;refine Exists.intro undef (And.intro (fun g0=>absurd g0 (by simp)) ?_);simp only[Ab];refine A9 false (by go_simp) ?_;refine Exists.intro undef (And.intro (fun g0=>absurd g0 (by simp)) ?_);simp only[Ab];refine A9 false (by go_simp) ?_;refine Exists.intro undef (And.intro (fun g0=>absurd g0 (by simp)) ?_);simp only[Ab];refine A9 false (by go_simp) ?_;refine Exists.intro undef (And.intro (fun g0=>absurd g0 (by simp)) ?_);simp only[Ab];refine A9 false (by go_simp) ?_;refine Exists.intro undef (And.intro (fun g0=>absurd g0 (by simp)) ?_);simp only[Ab];refine A9 false (by go_simp) ?_;refine Exists.intro undef (And.intro (fun g0=>absurd g0 (by simp)) ?_);simp only[Ab];refine A9 false (by go_simp) ?_;refine Exists.intro undef (And.intro (fun g0=>absurd g0 (by simp)) ?_);simp only[Ab];refine A9 false (by go_simp) ?_;refine Exists.intro undef (And.intro (fun g0=>absurd g0 (by simp)) ?_);simp only[Ab];refine A9 false (by go_simp) ?_;refine Exists.intro undef (And.intro (fun g0=>absurd g0 (by simp)) ?_);simp only[Ab];refine JX (v:=Iv 0) (f:=0) (args:=#[]) false (by go_simp) (Hd rfl) (fun h=>by cases h) (fun h=>by cases h) ?_;rintro wN gl;obtain rfl:=gl.o;simp only[Ab];refine A9 false (by go_simp) ?_;refine Exists.intro undef (And.intro (fun g0=>absurd g0 (by simp)) ?_);simp only[Ab];refine Aq rfl ?_;apply Exists.intro;refine⟨fun w' hw=>?_,?_⟩
     . clear hw;go_simp;rfl
     simp only[Ab];refine Bs ?_;have g1:=Hd (HO.o.drewN 1);have g3:=Hd HW.o.drew;have HX:=Hd (show c1.Perm cur/\c1.length=n from ⟨HP.o.1,HP.o.2⟩);clear HP;go_wp2_with fail;go_roundw
     case rel=>exact⟨i+1,c1,by omega,by go_num,by omega,g1,HX,g3⟩
     case measure=>simp[intOf];omega
    ·have g7:k+1<c1.length:=by have:=HP.o.2;omega
     have c1c:wr.drew.cell? (Aw g (k+1))=some (Iv (at0 c1 (k+1))):=HO.o.cell (k+1) g7;have c0c:wr.drew.cell? (Aw g k)=some (Iv (at0 c1 k)):=HO.o.cell k (by omega);have g9:=Hd (HO.o.drewN 1);have g2:=Hd HW.o.drew;have HM:Hq (at0 c1 (k+1)∈cur/\at0 c1 k∈cur):=Hd ⟨HP.o.1.mem_iff.1 (by rw[As g7];exact VG _),HP.o.1.mem_iff.1 (by rw[As (show k<c1.length by omega)];exact VG _)⟩;have gd:∀ w2 q,OwnI w2 base (.slice (some (Av g)) n cap) c1->w2.frozen? (Aw g q)=false:=fun w2 q h=>h.frozen q
     have ga:=Hd gd;have gv:k+1<n:=by have:=HP.o.2;omega
     have gp:(k:Int)+1<(n:Int):=by omega
     have gt:(k:Int)+1-1=(k:Int):=by omega
     have gr:(k:Int)<(n:Int):=by omega
     have go:IntKind.i64.wrap (k:Int)=(k:Int):=Xf _ ⟨by omega,by omega⟩;have gu:(k:Int)+1>0:=by omega
     have g8:=Hd (fun W1 h=>gc.o c1 W1 h k g7);obtain⟨y1,g4⟩:∃ y,y=at0 c1 (k+1):=⟨_,rfl⟩;obtain⟨y0,g5⟩:∃ y,y=at0 c1 k:=⟨_,rfl⟩;rw[<- g4] at c1c;rw[<- g5] at c0c;rw[<- g4,<- g5] at HM g8;have HY:=Hd (show y1=at0 c1 (k+1)/\y0=at0 c1 k from ⟨g4,g5⟩);clear g4 g5 g7 gd gc;go_upto_region 4 with fail;refine AJ (fun W1:Wd=>W1.cell? (Aw g (k+1))=some (Iv y1)/\W1.cell? (Aw g k)=some (Iv y0)/\Hq (Wr (· = g) W W1)/\Hq (OwnI W1 base (.slice (some (Av g)) n cap) c1)) false 17 [(0,false),(1,false),(2,false),(3,false),(4,false),(5,false),(6,false),(7,false),(8,false),(9,false),(10,false),(11,false),(12,false),(13,false),(14,true),(15,false),(16,false)] (by kernel_rfl) (by kernel_rfl) ⟨c1c,c0c,g2,g9⟩ ?_;simp only[planned,AH];refine Aq rfl ?_;apply Exists.intro;refine⟨fun w' hw=>?_,?_⟩
     . obtain⟨q1,q2,-,-⟩:=hw;go_simp;rfl
     simp only[Ab];refine Aq rfl ?_;apply Exists.intro;refine⟨fun w' hw=>?_,?_⟩
     . obtain⟨q1,q2,-,-⟩:=hw;go_simp;rfl
     simp only[Ab];refine Aq rfl ?_;apply Exists.intro;refine⟨fun w' hw=>?_,?_⟩
     . obtain⟨q1,q2,-,-⟩:=hw;go_simp;rfl
     simp only[Ab];refine Aq rfl ?_;apply Exists.intro;refine⟨fun w' hw=>?_,?_⟩
     . obtain⟨q1,q2,-,-⟩:=hw;go_simp;rfl
     simp only[Ab];refine A9 true (by go_simp) ?_;apply Exists.intro;refine⟨fun g0 w' hw=>?_,?_⟩
     . obtain⟨q1,q2,-,-⟩:=hw;go_simp;rfl
     simp only[Ab];refine A9 true (by go_simp) ?_;apply Exists.intro;refine⟨fun g0 w' hw=>?_,?_⟩
     . obtain⟨q1,q2,-,-⟩:=hw;go_simp;rfl
     simp only[Ab];refine A9 true (by go_simp) ?_;apply Exists.intro;refine⟨fun g0 w' hw=>?_,?_⟩
     . obtain⟨q1,q2,-,-⟩:=hw;go_simp;rfl
     simp only[Ab];refine A9 true (by go_simp) ?_;apply Exists.intro;refine⟨fun g0 w' hw=>?_,?_⟩
     . obtain⟨q1,q2,-,-⟩:=hw;go_simp;rfl
     simp only[Ab];refine A9 true (by go_simp) ?_;apply Exists.intro;refine⟨fun g0 w' hw=>?_,?_⟩
     . obtain⟨q1,q2,-,-⟩:=hw;go_simp;rfl
     simp only[Ab];refine A9 true (by go_simp) ?_;apply Exists.intro;refine⟨fun g0 w' hw=>?_,?_⟩
     . obtain⟨q1,q2,-,-⟩:=hw;go_simp;rfl
     simp only[Ab];refine A9 true (by go_simp) ?_;apply Exists.intro;refine⟨fun g0 w' hw=>?_,?_⟩
     . obtain⟨q1,q2,-,-⟩:=hw;go_simp;rfl
     simp only[Ab];refine A9 true (by go_simp) ?_;apply Exists.intro;refine⟨fun g0 w' hw=>?_,?_⟩
     . obtain⟨q1,q2,-,-⟩:=hw;go_simp;rfl
     simp only[Ab];refine A9 true (by go_simp) ?_;apply Exists.intro;refine⟨fun g0 w' hw=>?_,?_⟩
     . obtain⟨q1,q2,-,-⟩:=hw;go_simp;rfl
     simp only[Ab];refine A9 true (by go_simp) ?_;apply Exists.intro;refine⟨fun g0 w' hw=>?_,?_⟩
     . obtain⟨q1,q2,-,-⟩:=hw;go_simp;rfl
     simp only[Ab];refine Nt (R:=fun v w'=>∃ z:Int,v=Iv z) (by go_simp) (by go_simp) ((HC.o wr.drew y1 y0 g2.o HM.o.1 HM.o.2).mono fun e w' he=>?_) ?_
     . obtain⟨z,rfl,hb⟩:=he;exact⟨_,rfl,⟨(Cq hb c1c),(Cq hb c0c),Hd (g2.o.trans (Wr.of_below hb (· = g)) (fun _ _ h=>h) (fun _ _ h=>h)),Hd (g9.o.below hb)⟩,z,rfl⟩
     rintro v wN ⟨d1,d0,g3,g1⟩ ⟨z,rfl⟩;simp only[Ab];refine A9 true (by go_simp) ?_;apply Exists.intro;refine⟨fun g0 w' hw=>?_,?_⟩
     . obtain⟨q1,q2,-,-⟩:=hw;go_simp;rfl
     simp only[Ab];refine Aq rfl ?_;apply Exists.intro;refine⟨fun w' hw=>?_,?_⟩
     . obtain⟨q1,q2,-,-⟩:=hw;go_simp;rfl
     simp only[Ab];refine Bs ?_
     by_cases hz:z<0
     ·have f1:=ga.o wN (k+1) g1.o;have f0:=ga.o wN k g1.o;obtain⟨wS,g6⟩:∃ w,w=(wN.setCell (Aw g (k+1)) (Iv y0)).setCell (Aw g k) (Iv y1):=⟨_,rfl⟩;have gg:Hq (OwnI wS base (.slice (some (Av g)) n cap) (AC c1 (k:Int))):=Hd (by rw[g6];exact g8.o wN g1.o);have ge:Hq (Wr (· = g) W wS):=Hd (by rw[g6];exact(g3.o.setCell (p:=(Aw g (k+1))) (.inl rfl) _).setCell (p:=Aw g k) (.inl rfl) _);have gn:=Hd (show (AC c1 (k:Int)).Perm cur/\(AC c1 (k:Int)).length=n from ⟨(Ns c1 _).trans HP.o.1,by rw[Dy];exact HP.o.2⟩);clear HO HP HW g1 g3 HM g8 ga g9 g2 c1c c0c;go_wp2_with fail
      go_region
      rw[<- g6];have gi:=Hd (gg.o.drewN 1);have gh:=Hd ge.o.drew;clear g6 gg ge;go_wp2_with fail;go_roundw
      case rel=>exact⟨k,AC c1 (k:Int),by omega,by go_num,gi,gn,gh⟩
      case measure=>simp[intOf]
     ·have HX:=Hd (show c1.Perm cur/\c1.length=n from ⟨HP.o.1,HP.o.2⟩);clear HO HP HW HM g8 ga g9 g2 c1c c0c d1 d0;go_wp2_with fail;go_roundw
      case rel=>exact⟨i+1,c1,by omega,by go_num,by omega,g1,HX,g3⟩
      case measure=>simp[intOf];omega
  ·have HF:=Hd (gj.o wo ⟨c1,⟨HP.o.1,HP.o.2⟩,HO.o,HW.o⟩);have gm:¬ (i:Int)<(n:Int):=by omega
   clear HP HO HW gc;go_wp2_with fail
   first|exact HF.o|(refine Xi (WC rfl _ _ _) rfl ?_;exact HF.o)
theorem Ux (hown:OwnI W base (.slice (some (Av g)) n cap) cur)(hl:cur.length=n)(hn:n<=12) :
 Cl 204 #[.slice (some (Av g)) n cap,Iv 0,Iv (n:Nat)] W fun e w'=>e=.returned (.tuple #[])/\∃ c2,(c2.Perm cur/\c2.length=n/\Be n c2)/\OwnI w' base (.slice (some (Av g)) n cap) c2/\Wr (· = g) W w':=by
 obtain⟨P,hP⟩:=Ex (fun e w'=>e=.returned (.tuple #[])/\∃ c2,(c2.Perm cur/\c2.length=n/\Be n c2)/\OwnI w' base (.slice (some (Av g)) n cap) c2/\Wr (· = g) W w':Ending->Wd->Prop)
 have gi:Hq (∀ w',(∃ c2,(c2.Perm cur/\c2.length=n/\Be n c2)/\OwnI w' base (.slice (some (Av g)) n cap) c2/\Wr (· = g) W w')->P (.returned (.tuple #[])) w'):=Hd fun w' h=>by rw[hP];exact⟨rfl,h⟩
 have gc:Hq (∀ c1 W1,OwnI W1 base (.slice (some (Av g)) n cap) c1->∀ k,k+1<c1.length->OwnI ((W1.setCell (Aw g (k+1)) (Iv (at0 c1 k))).setCell (Aw g k) (Iv (at0 c1 (k+1)))) base (.slice (some (Av g)) n cap) (AC c1 (k:Int))):=Hd fun c1 W1 h k hk=>by
  rw[Fj hk,<- List.set_comm _ _ (by omega)];exact(h.stored (k+1) _).stored k _
 have H0:=Hd hown;have HL:=Hd hl;rw[<- hP];clear hP hown hl
 go_enter func204,ntmps204
 go_wp2_with fail
 go_loopw [6,7] (fun s8 _ wr=>∃ (i:Nat) (c1:List Int),1<=i/\s8=Iv (i:Nat)/\(i<=n\/i=1)/\Hq (OwnI wr base (.slice (some (Av g)) n cap) c1)/\Hq (c1.Perm cur/\c1.length=n/\Be i c1)/\Hq (Wr (· = g) W wr)) (fun s8 _ _=>n-(intOf s8).toNat)
 case atStart=>exact⟨1,cur,Vu _,rfl,.inr rfl,H0,Hd ⟨List.Perm.refl _,HL.o,Uv _⟩,Hd (Wr.refl _ _)⟩
 case round =>
  obtain⟨i,c1,gw,rfl,gv,HO,HP,HW⟩:=hrel;obtain⟨wo,gj⟩:∃ w,w=wr:=⟨_,rfl⟩;subst gj;clear H0
  by_cases gp:i<n
  ·have gl:(i:Int)<(n:Int):=by omega
   go_wp2_with fail
   go_loopw [7] (fun s9 wr=>∃ (j:Nat) (c1:List Int),j<=i/\s9=Iv (j:Nat)/\Hq (OwnI wr base (.slice (some (Av g)) n cap) c1)/\Hq (c1.Perm cur/\c1.length=n/\InsR i j c1)/\Hq (Wr (· = g) W wr)) (fun s9 _=>(intOf s9).toNat)
   case atStart=>exact⟨i,c1,Vu _,rfl,HO,Hd ⟨HP.o.1,HP.o.2.1,HP.o.2.2.ins⟩,HW⟩
   case round =>
    clear HO HP HW;obtain⟨j,c1,hj,rfl,HO,HP,HW⟩:=hrel;rcases j with _|k
    ·go_upto_region 4 with fail;refine AJ (fun W1:Wd=>Hq (W1=wr.drew)) false 15 [(0,false),(1,false),(2,false),(3,false),(4,false),(5,false),(6,false),(7,false),(8,false),(9,false),(10,false),(11,false),(12,false),(13,true),(14,false)] (by kernel_rfl) (by kernel_rfl) (Hd rfl) ?_;simp only[planned,AH];refine Aq rfl ?_;apply Exists.intro;refine⟨fun w' hw=>?_,?_⟩
     . clear hw;go_simp;rfl
     simp only[Ab];refine Aq rfl ?_;apply Exists.intro;refine⟨fun w' hw=>?_,?_⟩
     . clear hw;go_simp;rfl
     simp only[Ab];refine Aq rfl ?_;apply Exists.intro;refine⟨fun w' hw=>?_,?_⟩
     . clear hw;go_simp;rfl
     simp only[Ab];refine Aq rfl ?_;apply Exists.intro;refine⟨fun w' hw=>?_,?_⟩
     . clear hw;go_simp;rfl
     simp only[Ab];refine A9 false (by go_simp) ?_;refine Exists.intro undef (And.intro (fun g0=>absurd g0 (by simp)) ?_);simp only[Ab];refine A9 false (by go_simp) ?_;refine Exists.intro undef (And.intro (fun g0=>absurd g0 (by simp)) ?_);simp only[Ab];refine A9 false (by go_simp) ?_;refine Exists.intro undef (And.intro (fun g0=>absurd g0 (by simp)) ?_);simp only[Ab];refine A9 false (by go_simp) ?_;refine Exists.intro undef (And.intro (fun g0=>absurd g0 (by simp)) ?_);simp only[Ab];refine A9 false (by go_simp) ?_;refine Exists.intro undef (And.intro (fun g0=>absurd g0 (by simp)) ?_);simp only[Ab];refine A9 false (by go_simp) ?_;refine Exists.intro undef (And.intro (fun g0=>absurd g0 (by simp)) ?_);simp only[Ab];refine A9 false (by go_simp) ?_;refine Exists.intro undef (And.intro (fun g0=>absurd g0 (by simp)) ?_);simp only[Ab];refine A9 false (by go_simp) ?_;refine Exists.intro undef (And.intro (fun g0=>absurd g0 (by simp)) ?_);simp only[Ab];refine A9 false (by go_simp) ?_;refine Exists.intro undef (And.intro (fun g0=>absurd g0 (by simp)) ?_);simp only[Ab];refine JX (v:=Iv 0) (f:=0) (args:=#[]) false (by go_simp) (Hd rfl) (fun h=>by cases h) (fun h=>by cases h) ?_;rintro wN gk;obtain rfl:=gk.o;simp only[Ab];refine Aq rfl ?_;apply Exists.intro;refine⟨fun w' hw=>?_,?_⟩
     . clear hw;go_simp;rfl
     simp only[Ab];refine Bs ?_;have g1:=Hd (HO.o.drewN 1);have g2:=Hd HW.o.drew;have HX:=Hd (show c1.Perm cur/\c1.length=n/\Be (i+1) c1 from ⟨HP.o.1,HP.o.2.1,HP.o.2.2.exit (.inl rfl)⟩);clear HP;go_wp2_with fail;go_roundw
     case rel=>exact⟨i+1,c1,by omega,by go_num,by omega,g1,HX,g2⟩
     case measure=>simp[intOf];omega
    ·have g6:k+1<c1.length:=by have:=HP.o.2.1;omega
     have c1c:wr.drew.cell? (Aw g (k+1))=some (Iv (at0 c1 (k+1))):=HO.o.cell (k+1) g6;have c0c:wr.drew.cell? (Aw g k)=some (Iv (at0 c1 k)):=HO.o.cell k (by omega);have g9:=Hd (HO.o.drewN 1);have g7:=Hd HW.o.drew;have HM:Hq (at0 c1 (k+1)∈cur/\at0 c1 k∈cur):=Hd ⟨HP.o.1.mem_iff.1 (by rw[As g6];exact VG _),HP.o.1.mem_iff.1 (by rw[As (show k<c1.length by omega)];exact VG _)⟩;have gd:∀ w2 q,OwnI w2 base (.slice (some (Av g)) n cap) c1->w2.frozen? (Aw g q)=false:=fun w2 q h=>h.frozen q
     have ga:=Hd gd;have gu:k+1<n:=by have:=HP.o.2.1;omega
     have go:(k:Int)+1<(n:Int):=by omega
     have gr:(k:Int)+1-1=(k:Int):=by omega
     have gq:(k:Int)<(n:Int):=by omega
     have gn:IntKind.i64.wrap (k:Int)=(k:Int):=Xf _ ⟨by omega,by omega⟩;have gt:(k:Int)+1>0:=by omega
     have g8:=Hd (fun W1 h=>gc.o c1 W1 h k g6);obtain⟨y1,g3⟩:∃ y,y=at0 c1 (k+1):=⟨_,rfl⟩;obtain⟨y0,g4⟩:∃ y,y=at0 c1 k:=⟨_,rfl⟩;rw[<- g3] at c1c;rw[<- g4] at c0c;rw[<- g3,<- g4] at HM g8;have HY:=Hd (show y1=at0 c1 (k+1)/\y0=at0 c1 k from ⟨g3,g4⟩);clear g3 g4 g6 gd gc;go_upto_region 4 with fail;refine AJ (fun W1:Wd=>W1.cell? (Aw g (k+1))=some (Iv y1)/\W1.cell? (Aw g k)=some (Iv y0)/\Hq (Wr (· = g) W W1)/\Hq (OwnI W1 base (.slice (some (Av g)) n cap) c1)) false 15 [(0,false),(1,false),(2,false),(3,false),(4,false),(5,false),(6,false),(7,false),(8,false),(9,false),(10,false),(11,false),(12,false),(13,true),(14,false)] (by kernel_rfl) (by kernel_rfl) ⟨c1c,c0c,g7,g9⟩ ?_;simp only[planned,AH];refine Aq rfl ?_;apply Exists.intro;refine⟨fun w' hw=>?_,?_⟩
     . obtain⟨q1,q2,-,-⟩:=hw;go_simp;rfl
     simp only[Ab];refine Aq rfl ?_;apply Exists.intro;refine⟨fun w' hw=>?_,?_⟩
     . obtain⟨q1,q2,-,-⟩:=hw;go_simp;rfl
     simp only[Ab];refine Aq rfl ?_;apply Exists.intro;refine⟨fun w' hw=>?_,?_⟩
     . obtain⟨q1,q2,-,-⟩:=hw;go_simp;rfl
     simp only[Ab];refine Aq rfl ?_;apply Exists.intro;refine⟨fun w' hw=>?_,?_⟩
     . obtain⟨q1,q2,-,-⟩:=hw;go_simp;rfl
     simp only[Ab];refine A9 true (by go_simp) ?_;apply Exists.intro;refine⟨fun g0 w' hw=>?_,?_⟩
     . obtain⟨q1,q2,-,-⟩:=hw;go_simp;rfl
     simp only[Ab];refine A9 true (by go_simp) ?_;apply Exists.intro;refine⟨fun g0 w' hw=>?_,?_⟩
     . obtain⟨q1,q2,-,-⟩:=hw;go_simp;rfl
     simp only[Ab];refine A9 true (by go_simp) ?_;apply Exists.intro;refine⟨fun g0 w' hw=>?_,?_⟩
     . obtain⟨q1,q2,-,-⟩:=hw;go_simp;rfl
     simp only[Ab];refine A9 true (by go_simp) ?_;apply Exists.intro;refine⟨fun g0 w' hw=>?_,?_⟩
     . obtain⟨q1,q2,-,-⟩:=hw;go_simp;rfl
     simp only[Ab];refine A9 true (by go_simp) ?_;apply Exists.intro;refine⟨fun g0 w' hw=>?_,?_⟩
     . obtain⟨q1,q2,-,-⟩:=hw;go_simp;rfl
     simp only[Ab];refine A9 true (by go_simp) ?_;apply Exists.intro;refine⟨fun g0 w' hw=>?_,?_⟩
     . obtain⟨q1,q2,-,-⟩:=hw;go_simp;rfl
     simp only[Ab];refine A9 true (by go_simp) ?_;apply Exists.intro;refine⟨fun g0 w' hw=>?_,?_⟩
     . obtain⟨q1,q2,-,-⟩:=hw;go_simp;rfl
     simp only[Ab];refine A9 true (by go_simp) ?_;apply Exists.intro;refine⟨fun g0 w' hw=>?_,?_⟩
     . obtain⟨q1,q2,-,-⟩:=hw;go_simp;rfl
     simp only[Ab];refine A9 true (by go_simp) ?_;apply Exists.intro;refine⟨fun g0 w' hw=>?_,?_⟩
     . obtain⟨q1,q2,-,-⟩:=hw;go_simp;rfl
     simp only[Ab];refine Nt (R:=fun v w'=>v=.bool (decide (y1<y0))) (by go_simp) (by go_simp) ((Uu y1 y0 wr.drew).mono fun e w' he=>?_) ?_
     . obtain⟨rfl,rfl⟩:=he;exact⟨_,rfl,⟨c1c,c0c,g7,g9⟩,rfl⟩
     rintro v wN ⟨d1,d0,g2,g1⟩ rfl;simp only[Ab];refine Aq rfl ?_;apply Exists.intro;refine⟨fun w' hw=>?_,?_⟩
     . obtain⟨q1,q2,-,-⟩:=hw;go_simp;rfl
     simp only[Ab];refine Bs ?_
     by_cases hz:y1<y0
     ·have f1:=ga.o wN (k+1) g1.o;have f0:=ga.o wN k g1.o;obtain⟨wS,g5⟩:∃ w,w=(wN.setCell (Aw g (k+1)) (Iv y0)).setCell (Aw g k) (Iv y1):=⟨_,rfl⟩;have gf:Hq (OwnI wS base (.slice (some (Av g)) n cap) (AC c1 (k:Int))):=Hd (by rw[g5];exact g8.o wN g1.o);have ge:Hq (Wr (· = g) W wS):=Hd (by rw[g5];exact(g2.o.setCell (p:=(Aw g (k+1))) (.inl rfl) _).setCell (p:=Aw g k) (.inl rfl) _);have gm:=Hd (show (AC c1 (k:Int)).Perm cur/\(AC c1 (k:Int)).length=n/\InsR i k (AC c1 (k:Int)) from ⟨(Ns c1 _).trans HP.o.1,by rw[Dy];exact HP.o.2.1,HP.o.2.2.step (by have:=HP.o.2.1;omega) (by rw[<- HY.o.1,<- HY.o.2];exact hz)⟩);clear HO HP HW g1 g2 HM g8 ga g9 g7 c1c c0c;go_wp2_with fail
      go_region
      rw[<- g5];have gh:=Hd (gf.o.drewN 1);have gg:=Hd ge.o.drew;clear g5 gf ge;go_wp2_with fail;go_roundw
      case rel=>exact⟨k,AC c1 (k:Int),by omega,by go_num,gh,gm,gg⟩
      case measure=>simp[intOf]
     ·have HX:=Hd (show c1.Perm cur/\c1.length=n/\Be (i+1) c1 from ⟨HP.o.1,HP.o.2.1,HP.o.2.2.exit (.inr (by rw[Nat.add_sub_cancel,<- HY.o.1,<- HY.o.2];omega))⟩);clear HO HP HW HM g8 ga g9 g7 c1c c0c d1 d0;go_wp2_with fail;go_roundw
      case rel=>exact⟨i+1,c1,by omega,by go_num,by omega,g1,HX,g2⟩
      case measure=>simp[intOf];omega
  ·have HF:=Hd (gi.o wo ⟨c1,⟨HP.o.1,HP.o.2.1,fun p q h1 h2=>HP.o.2.2 p q h1 (by omega)⟩,HO.o,HW.o⟩);have gl:¬ (i:Int)<(n:Int):=by omega
   clear HP HO HW gc;go_wp2_with fail
   first|exact HF.o|(refine Xi (WC rfl _ _ _) rfl ?_;exact HF.o)
theorem Nu (x:Nat)(hx:x<64)(w:Wd):Cl 137 #[.int .u64 x] w fun e w'=>(∃ z,e=.returned (Iv z))/\w=w':=by
 have H1:=Hd (Us x hx w)
 go_enter func137,ntmps137
 go_wp2_with fail;refine H1.o.mono ?_;rintro e w' ⟨⟨z,rfl⟩,rfl⟩;go_wp2_with fail;go_ret;exact⟨⟨_,rfl⟩,rfl⟩
theorem Uy (hown:OwnI W base (.slice (some (Av g)) n cap) cur)(hl:cur.length=n)(hn:n<=12)(eg:∀ args w,(callFunc gf args).run prog w=.ok (.enter gf args) w)(hcmp:∀ W1 x y,Wr (· = g) W W1->x∈cur->y∈cur->Calls prog gf (#[Iv x,Iv y]++lop) W1 fun e w'=>∃ z,e=.returned (Iv z)/\Bw W1 w')(z:Int) :
 Cl 136 #[.slice (some (Av g)) n cap,Iv 0,Iv (n:Nat),Iv z,.func (.func gf) #[] lop] W fun e w'=>e=.returned (.tuple #[])/\∃ c2,(c2.Perm cur/\c2.length=n)/\OwnI w' base (.slice (some (Av g)) n cap) c2/\Wr (· = g) W w':=by
 have HI:=Hd (Uw hown hl hn eg hcmp);obtain⟨P,hP⟩:=Ex (fun w'=>∃ c2,(c2.Perm cur/\c2.length=n)/\OwnI w' base (.slice (some (Av g)) n cap) c2/\Wr (· = g) W w':Wd->Prop)
 have e:(fun(e:Ending) (w':Wd)=>e=.returned (.tuple #[])/\∃ c2,(c2.Perm cur/\c2.length=n)/\OwnI w' base (.slice (some (Av g)) n cap) c2/\Wr (· = g) W w')=fun e w'=>e=.returned (.tuple #[])/\P w':=by rw[hP]
 rw[e] at HI ⊢;have g0:(n:Int)<=12:=by omega
 clear hP e hown hl hcmp
 go_enter func136,ntmps136
 go_wp2_with fail
 go_loopw [1,2,3] (fun s1 s2 s3 wr=>s1=Iv 0/\s2=Iv (n:Nat)/\s3=Iv z/\W=wr) (fun _ _ _ _=>0)
 case atStart=>exact⟨rfl,rfl,rfl,rfl⟩
 case round =>
  obtain⟨rfl,rfl,rfl,rfl⟩:=hrel;go_wp2_with fail;refine HI.o.mono ?_;rintro e w' ⟨rfl,hp⟩;have HP:=Hd hp;clear hp HI;go_wp2_with fail;refine VR (WC rfl _ _ _) rfl ?_;exact⟨rfl,HP.o⟩
theorem Vp (hown:OwnI W base (.slice (some (Av g)) n cap) cur)(hl:cur.length=n)(hn:n<=12)(eg:∀ args w,(callFunc gf args).run prog w=.ok (.enter gf args) w)(hcmp:∀ W1 x y,Wr (· = g) W W1->x∈cur->y∈cur->Calls prog gf (#[Iv x,Iv y]++lop) W1 fun e w'=>∃ z,e=.returned (Iv z)/\Bw W1 w') :
 Cl 87 #[.slice (some (Av g)) n cap,.func (.func gf) #[] lop] W fun e w'=>e=.returned (.tuple #[])/\∃ c2,(c2.Perm cur/\c2.length=n)/\OwnI w' base (.slice (some (Av g)) n cap) c2/\Wr (· = g) W w':=by
 have HI:=Hd (fun z=>Uy hown hl hn eg hcmp z);obtain⟨P,hP⟩:=Ex (fun w'=>∃ c2,(c2.Perm cur/\c2.length=n)/\OwnI w' base (.slice (some (Av g)) n cap) c2/\Wr (· = g) W w':Wd->Prop)
 have e:(fun(e:Ending) (w':Wd)=>e=.returned (.tuple #[])/\∃ c2,(c2.Perm cur/\c2.length=n)/\OwnI w' base (.slice (some (Av g)) n cap) c2/\Wr (· = g) W w')=fun e w'=>e=.returned (.tuple #[])/\P w':=by rw[hP]
 rw[e] at HI ⊢;have g0:=Hd (Nu n (by omega) W);have g2:IntKind.u64.wrap (n:Int)=(n:Int):=by rw[IntKind.wrap_u64];omega
 clear hP e hown hl hcmp
 go_enter func87,ntmps87
 go_wp2_with fail;refine g0.o.mono ?_;rintro e w' ⟨⟨z,rfl⟩,rfl⟩;have g1:=Hd (HI.o z);clear HI g0;go_wp2_with fail;refine g1.o.mono ?_;rintro e w' ⟨rfl,hp⟩;have HP:=Hd hp;clear hp g1;go_wp2_with fail;refine Xi (WC rfl _ _ _) rfl ?_;exact⟨rfl,HP.o⟩
theorem Uz (hown:OwnI W base (.slice (some (Av g)) n cap) cur)(hl:cur.length=n)(hn:n<=12)(z:Int) :
 Cl 149 #[.slice (some (Av g)) n cap,Iv 0,Iv (n:Nat),Iv z] W fun e w'=>e=.returned (.tuple #[])/\∃ c2,(c2.Perm cur/\c2.length=n/\Be n c2)/\OwnI w' base (.slice (some (Av g)) n cap) c2/\Wr (· = g) W w':=by
 have HI:=Hd (Ux hown hl hn);obtain⟨P,hP⟩:=Ex (fun w'=>∃ c2,(c2.Perm cur/\c2.length=n/\Be n c2)/\OwnI w' base (.slice (some (Av g)) n cap) c2/\Wr (· = g) W w':Wd->Prop)
 have e:(fun(e:Ending) (w':Wd)=>e=.returned (.tuple #[])/\∃ c2,(c2.Perm cur/\c2.length=n/\Be n c2)/\OwnI w' base (.slice (some (Av g)) n cap) c2/\Wr (· = g) W w')=fun e w'=>e=.returned (.tuple #[])/\P w':=by rw[hP]
 rw[e] at HI ⊢;have g0:(n:Int)<=12:=by omega
 clear hP e hown hl
 go_enter func149,ntmps149
 go_wp2_with fail
 go_loopw [1,2,3] (fun s1 s2 s3 wr=>s1=Iv 0/\s2=Iv (n:Nat)/\s3=Iv z/\W=wr) (fun _ _ _ _=>0)
 case atStart=>exact⟨rfl,rfl,rfl,rfl⟩
 case round =>
  obtain⟨rfl,rfl,rfl,rfl⟩:=hrel;go_wp2_with fail;refine HI.o.mono ?_;rintro e w' ⟨rfl,hp⟩;have HP:=Hd hp;clear hp HI;go_wp2_with fail;refine VR (WC rfl _ _ _) rfl ?_;exact⟨rfl,HP.o⟩
theorem U0 (hown:OwnI W base (.slice (some (Av g)) n cap) cur)(hl:cur.length=n)(hn:n<=12) :
 Cl 97 #[.slice (some (Av g)) n cap] W fun e w'=>e=.returned (.tuple #[])/\∃ c2,(c2.Perm cur/\c2.length=n/\Be n c2)/\OwnI w' base (.slice (some (Av g)) n cap) c2/\Wr (· = g) W w':=by
 have HI:=Hd (fun z=>Uz hown hl hn z);obtain⟨P,hP⟩:=Ex (fun w'=>∃ c2,(c2.Perm cur/\c2.length=n/\Be n c2)/\OwnI w' base (.slice (some (Av g)) n cap) c2/\Wr (· = g) W w':Wd->Prop)
 have e:(fun(e:Ending) (w':Wd)=>e=.returned (.tuple #[])/\∃ c2,(c2.Perm cur/\c2.length=n/\Be n c2)/\OwnI w' base (.slice (some (Av g)) n cap) c2/\Wr (· = g) W w')=fun e w'=>e=.returned (.tuple #[])/\P w':=by rw[hP]
 rw[e] at HI ⊢;have g0:=Hd (Nu n (by omega) W);have g2:IntKind.u64.wrap (n:Int)=(n:Int):=by rw[IntKind.wrap_u64];omega
 clear hP e hown hl
 go_enter func97,ntmps97
 go_wp2_with fail;refine g0.o.mono ?_;rintro e w' ⟨⟨z,rfl⟩,rfl⟩;have g1:=Hd (HI.o z);clear HI g0;go_wp2_with fail;refine g1.o.mono ?_;rintro e w' ⟨rfl,hp⟩;have HP:=Hd hp;clear hp g1;go_wp2_with fail;refine Xi (WC rfl _ _ _) rfl ?_;exact⟨rfl,HP.o⟩
section
variable {P:List Nat->Prop}
theorem Nv (hB:AA B)(h:FxO K n room w0 mb ws0 C o0 wb B P fs nx W)(hn:nx<=549755813888)(hr:3*(fs.length*2^n)<=room)(hz:∀ W o,B W o->SliceIs W v zs)(hzr:A7 zs=true)(hzl:zs.length=n) :
 Cl 100 #[Pt mb,v] W fun x w'=>x=.returned (Iv 0)/\FxO K n room w0 mb ws0 C o0 wb B (fun l=>l.map Int.ofNat=zs) fs nx w':=by
 have hn64:n<=64:=by obtain⟨o,m,V,_,_,h3,_⟩:=h;have:=h3.ok.store.small;rw[h3.vars] at this;exact this
 have gg:=Hd (h.order hB);have gi:=Hd hB;have HZ:=Hd hz;have ge:=Hd hzr;have g8:=Hd hzl;have gl:Hq (∀ (B':Wd->Own->Prop) (gd:AA B') (P P':List Nat->Prop) W k,FxO K n room w0 mb ws0 C o0 wb B' P fs nx W->k+1<n->(∀ l,l.length=n->P l->P' (exL l k))->Cl 113 #[Pt mb,Iv k] W fun e w'=>e=.returned (Iv 0)/\FxO K n room w0 mb ws0 C o0 wb B' P' fs nx w'):=Hd fun B' gd P P' W k hA hk hP=>hA.swap gd hk hn hr hP
 obtain⟨a,c,rfl,-⟩:∃ a c,v=.slice a zs.length c/\True:=by
  obtain⟨o,m,V,_,_,_,h4⟩:=h;obtain⟨a,c,e,_⟩:=hz _ _ h4;exact⟨a,c,e,trivial⟩
 clear h hz hzr hzl hr hB
 go_enter func100,ntmps100
 go_wp2_with fail;refine gg.o.mono ?_;rintro x w1 ⟨v1,l,rfl,hl,gk,g1,_,h1,_⟩;have hs1:SliceIs w1 v1 (l.map Int.ofNat):=h1.know (Q:=fun W=>SliceIs W v1 (l.map Int.ofNat)) fun W o hh=>hh.2.slice
 have ga:SliceIs w1 (.slice a zs.length c) zs:=h1.know (Q:=fun W=>SliceIs W (.slice a zs.length c) zs) fun W o hh=>HZ.o _ _ hh.1
 have g3:=Hd (LV _ _ _ _ w1 hs1 ga (by rw[VP];omega) (by rw[g8.o];omega));have gf:=Hd (show A7 (l.map Int.ofNat)=true/\(l.map Int.ofNat).length=zs.length from ⟨g1,by rw[VP,hl,g8.o]⟩);have g5:=TA g1 ge.o gf.o.2;have g7:Cj (l.map Int.ofNat) zs=0:=by unfold Cj;rw[Vw ⟨g1,ge.o⟩,Vw gf.o.2]
 have H1:=Hd h1;obtain⟨ss,g4⟩:=Ex (BQ (l.map Int.ofNat) zs);unfold IE at g3;rw[g7,<- g4] at g3;rw[<- g4] at g5;have gh:=Hd g5.2;have gm:ss.length<=64*64:=by
  have h2:=MN (AZ zs) (l.map Int.ofNat);have h3:(l.map Int.ofNat).length*(l.map Int.ofNat).length<=64*64:=XI (by rw[VP];omega) (by rw[VP];omega);omega
 clear h1 hs1 ga g5 g7 g4 g1 gk gg;go_wp2_with fail;refine g3.o.mono ?_;rintro x w2 ⟨v2,rfl,g0,gc⟩;have h2:=H1.o.mine (gi.o.and AW.keep) gc (g0.sliceIs (by omega)) fun k hk=>g0.lt k hk
 obtain⟨a2,c2,rfl,-,-⟩:=g0.sliceIs (by omega);have H2:Hq (FxO K n room w0 mb ws0 C o0 wb (fun W o=>(B W o/\AW v1 (l.map Int.ofNat) W o)/\AW (.slice a2 ss.length c2) ss W o) (fun l'=>l'.map Int.ofNat=(ss.take 0).foldl AC (l.map Int.ofNat)) fs nx w2):=Hd (h2.imp fun l' _ e=>by rw[e];rfl);clear h2 g0 gc g3;go_wp2_with fail
 go_loopw [4,8,9,22] (fun _ _ _ s22 wr=>∃ i:Nat,i<=ss.length/\s22=Iv i/\Hq (FxO K n room w0 mb ws0 C o0 wb (fun W o=>(B W o/\AW v1 (l.map Int.ofNat) W o)/\AW (.slice a2 ss.length c2) ss W o) (fun l'=>l'.map Int.ofNat=(ss.take i).foldl AC (l.map Int.ofNat)) fs nx wr)) (fun _ _ _ s22 _=>ss.length-(intOf s22).toNat)
 case atStart=>exact⟨0,VC _,rfl,H2⟩
 case round =>
  clear H2;obtain⟨i,hi,rfl,HI⟩:=hrel
  by_cases g2:i<ss.length
  ·have gn:(i:Int)<ss.length:=by omega
   have gj:SliceIs wr (.slice a2 ss.length c2) ss:=HI.o.know (Q:=fun W=>SliceIs W (.slice a2 ss.length c2) ss) fun W o hh=>hh.2.slice
   obtain⟨a3,c3,e3,g9,_⟩:=gj;injection e3 with e3 _ e4
   subst e3 e4;obtain⟨b,off,rfl,hc⟩:=g9.cells i g2;obtain⟨q1,q2⟩:=gh.o.1 (at0 ss i) (by rw[As g2];exact VG _);obtain⟨k,hk⟩:∃ k:Nat,at0 ss i=(k:Int):=⟨(at0 ss i).toNat,by omega⟩;rw[hk] at hc;have g6:k+1<n:=by rw[<- g8.o];omega
   have HS:=Hd (gl.o _ ((gi.o.and AW.keep).and AW.keep) _ (fun l'=>l'.map Int.ofNat=(ss.take (i+1)).foldl AC (l.map Int.ofNat)) wr k HI.o g6 (fun l' hl' e=>by
    rw[TC (by rw[hl'];exact g6),e,Vz g2,Xt,List.foldl_cons,List.foldl_nil,<- As g2,hk]))
   clear g9 q1 q2 hk g6 HI;go_wp2_with fail;refine HS.o.mono ?_;rintro x w3 ⟨rfl,h3⟩;have H3:=Hd h3;clear h3 HS hc;go_wp2_with fail;go_roundw
   case rel=>exact⟨i+1,by omega,by go_num,H3⟩
   case measure=>simp[intOf];omega
  ·obtain rfl:i=ss.length:=by omega
   have HF:=Hd ((HI.o.withB (B':=B) fun o m V _ hh=>hh.1.1).imp (P':=fun l=>l.map Int.ofNat=zs) fun l' _ e=>by rw[e,Wb];exact gh.o.2);clear HI;go_wp2_with fail;go_ret;exact⟨rfl,HF.o⟩
end
section
variable {B2:Wd->Own->Prop}{P:List Nat->Prop}
theorem FxO.mineB (hB:AA B)(h:FxO K n room w0 mb ws0 C o0 wb B P fs nx W)(hb:Bw W W')(hq:∀ o,Ac o W->B W' o->B2 W' o):FxO K n room w0 mb ws0 C o0 wb B2 P fs nx W':=by
 obtain⟨o,m,V,h1,h2,h3,h4⟩:=h;exact⟨o,m,V,h1.trans (ChgX.of_below hb o NoB) NoB.sub,h2,h3.below hb,hq o h3.lt (hB _ _ _ _ h4 (ChgX.of_below hb o NoB))⟩
def W22B (c:W22C)(zs vs:List Int)(lv wd:Nat)(L:List (List Int))(vn vv:Value):Wd->Own->Prop:=fun W o =>
 (BxN c.bl (Iv (lv:Nat)) 3 W o/\BxN c.bw (Iv (wd:Nat)) 3 W o)/\(BxN c.bn vn 22 W o/\AW vn zs W o)/\(BxN c.bv vv 22 W o/\AW vv vs W o)/\BxA c.br (tabC L) 131 W o
theorem W22B.keep {c:W22C}{zs vs:List Int}{lv wd:Nat}{L:List (List Int)}{vn vv:Value}:AA (W22B c zs vs lv wd L vn vv):=(BxN.keep.and BxN.keep).and ((BxN.keep.and AW.keep).and ((BxN.keep.and AW.keep).and BxA.keep))
theorem W22B.s {c:W22C}{L:List (List Int)}{vn vv:Value}{o:Own}(h:W22B c zs vs lv wd L vn vv W o):W22S c zs vs lv wd L W :=
 ⟨⟨vn,h.2.1.1.cell,h.2.1.2.slice⟩,h.1.2.cell,⟨vv,h.2.2.1.1.cell,h.2.2.1.2.slice⟩,fun i hi=>by rw[Vt _ _ i _ _ _ h.2.2.2.1];exact FN L hi,h.1.1.cell⟩
end
theorem Jm {p:List Int}(hz:lv+wd<=zs.length)(hv:vs.Perm ((zs.drop lv).take wd))(hp:(p.map fun x=>at0 vs x.toNat).Perm vs)(hpl:p.length=wd):(winZ zs vs lv p).Perm zs:=by
 unfold winZ;rw[hpl];have e:zs=zs.take lv++((zs.drop lv).take wd++zs.drop (lv+wd)):=by
  rw[<- List.drop_drop,Xo,Xo]
 conv=>rhs;rw[e]
 rw[VH];exact(((hp.trans hv).append_right _).append_left _)
theorem Gq {p:List Int}(hp:p∈ordR wd wd [])(hl:vs.length=wd):(p.map fun x=>at0 vs x.toNat).Perm vs/\p.length=wd/\∀ x∈p,0<=x/\x<(wd:Int):=by
 obtain⟨q1,q2⟩:=JJ wd wd [] p ⟨List.nodup_nil,fun x hx=>by cases hx⟩ hp;have q3:p.length=wd:=by simpa using q2
 refine⟨?_,q3,q1.2⟩;have g0:(p.map Int.toNat).Perm (List.range wd):=by
  refine(List.perm_ext_iff_of_nodup ?_ List.nodup_range).2 fun k=>?_
  . exact Xv.2 (q1.1.imp_of_mem fun {a b} ha hb g1 e=>g1 (by have:=q1.2 a ha;have:=q1.2 b hb;omega))
  ·rw[VD,Xs];constructor
   . rintro⟨x,hx,rfl⟩;have:=q1.2 x hx;omega
   . intro hk;exact⟨(k:Int),Np (G3 q1 q3) q3 ⟨by omega,by omega⟩,by simp⟩
 have e1:p.map (fun x=>at0 vs x.toNat)=(p.map Int.toNat).map (at0 vs):=by rw[Xa];rfl
 have e2:(List.range wd).map (at0 vs)=vs:=by
  refine Xh (by simp[hl]) fun i h1 h2=>?_
  simp[As h2]
 rw[e1]
 conv=>rhs;rw[<- e2]
 exact g0.map _
section
variable {P:List Nat->Prop}{a:Option Addr}
noncomputable def sizes22 (n:Nat)(Fs:List BF)(zs vs:List Int)(lv wd:Nat):List Int:=(ordR wd wd []).map fun p=>((szO n Fs (winZ zs vs lv p):Nat):Int)
def SzB (base:Nat)(u:Value)(zs:List Int):Wd->Own->Prop:=fun W o=>OwnI W base u zs/\∀ k,u.ownBlock=some k->o k=none
theorem SzB.keep :AA (SzB base u zs):=fun W o W' o' h hc =>
 ⟨by
  refine⟨h.1.1,h.1.2.imp id ?_⟩;rintro⟨g,cap,cur,e,h1,h2,h3⟩;have hk:u.ownBlock=some g:=by rw[e];rfl
  exact⟨g,cap,cur,e,h1,(hc.block g (h.1.lt g hk).2 (h.2 g hk) (fun e=>e)).trans h2,h3⟩,fun k hk=>hc.none' (h.1.lt k hk).2 (h.2 k hk)⟩
theorem FxO.app22 {o8:Own}{w8:Wd}{P:List Nat->Prop}{x:Int}(h:FxO K n room w0 mb ws0 C o0 wb (fun W o=>BfB o8 w8 W o/\SzB w8.heap.size u zs W o) P fs nx W)(hs:wb.heap.size<=w8.heap.size)(hs0:w0.heap.size<=w8.heap.size)(hown:OwnI W' w8.heap.size v (zs++[x]))(hb:Below w8.heap.size W W')(hk:BA u v W W'):FxO K n room w0 mb ws0 C o0 wb (fun W o=>BfB o8 w8 W o/\SzB w8.heap.size v (zs++[x]) W o) P fs nx W':=by
 have hw:=EO hb.os hb.tape hb.output hb.size hk;have g0:∀ k,u.ownBlock=some k->w8.heap.size<=k:=by
  obtain⟨o,m,V,_,_,_,_,h5⟩:=h;exact fun k hk=>(h5.1.lt k hk).1
 refine h.wrC hw (fun k hk=>.inr (Vy hs (g0 k hk))) (fun k hk=>Vy hs0 (g0 k hk)) (fun o hh k hk=>hh.2.2 k hk) fun o g2 hh=>⟨hh.1.wr hw g0,hown,fun k g1=>?_⟩
 rcases hk.loc with e|⟨g,e,hg⟩
 . exact hh.2.2 k (by rw[<- e];exact g1)
 . rw[e] at g1;cases g1;exact g2.none hg
theorem U1 (n:Nat):0<(ordR n n []).length:=by
 have hm:(List.range n).map Int.ofNat∈ordR n n []:=JK n n [] _ ⟨by
  rw[Ws];exact Xv.2 ((List.nodup_range (n:=n)).imp fun h e=>h (Int.ofNat.inj e)),fun x hx=>by
  rw[Ws] at hx;obtain⟨k,hk,rfl⟩:=VD.1 hx;have:=Xs.1 hk;exact⟨Int.natCast_nonneg k,by show (k:Int)<n;omega⟩⟩ (by simp)
 exact Yh hm
theorem Nw (hB:AA B)(hzr:A7 zs=true)(hzl:zs.length=n)(hw1:1<=wd)(hw4:wd<=4)(hlw:lv+wd<=n)(hn:nx<=549755813888)(hr:3*(fs.length*2^n)<=room)(hl:∀ W o,B W o->ArgI w0 W o a ks)(hlen:Fs.length=ks.length)(hmm:∀ i (h:i<ks.length),(ks[i],Fs[i]'(by omega))∈fs)(hsz:Fs.length*2^n<=1000000000)
 (h:FxO K n room w0 mb ws0 C o0 wb B (fun l=>l.map Int.ofNat=zs) fs nx W) :
 Cl 41 #[Pt mb,Iv lv,Iv wd,.slice a ks.length c] W fun e w'=>∃ (vs:List Int) (b:Nat),vs.Perm ((zs.drop lv).take wd)/\Be wd vs/\AU (sizes22 n Fs zs vs lv wd) (ordR wd wd []).length b/\e=.returned (.tuple #[Iv (szO n Fs (winZ zs vs lv ((ordR wd wd []).getD b [])):Nat),Iv 0])/\FxO K n room w0 mb ws0 C o0 wb B (fun l=>l.map Int.ofNat=winZ zs vs lv ((ordR wd wd []).getD b [])) fs nx w':=by
 have hn64:n<=64:=by obtain⟨o,m,V,_,_,h3,_⟩:=h;have:=h3.ok.store.small;rw[h3.vars] at this;exact this
 obtain⟨D,hD⟩:=Ex W.heap.size;obtain⟨B1,gd⟩:=Ex (fun W' o'=>(B W' o'/\BxN D (Iv (lv:Nat)) 3 W' o')/\BxN (D+1) (Iv (wd:Nat)) 3 W' o':Wd->Own->Prop)
 have gm:AA B1:=by rw[gd];exact(hB.and BxN.keep).and BxN.keep
 obtain⟨w1,gw⟩:=Ex ((W.alloc (.cells #[Iv (lv:Nat)] 3)).alloc (.cells #[Iv (wd:Nat)] 3));have t1:FxO K n room w0 mb ws0 C o0 wb B1 (fun l=>l.map Int.ofNat=zs) fs nx w1:=by
  have:=FxO.box (hB.and BxN.keep) (FxO.box hB h (Iv (lv:Nat)) 3) (Iv (wd:Nat)) 3;rw[VK,<- hD] at this;rw[gw,gd];exact this
 have kR:=Hd t1;have hF:Hq (∀ i,(hi:i<ks.length)->Cl 20 #[Pt mb,Iv (at0 ks i)] w1 (Sm (.bool true) w1)):=Hd fun i hi=>t1.ask fun o m V hs _=>by
  rw[As hi];exact IG hs (hmm i hi)
 have hG:Hq (∀ i,i<ks.length->∃ b off,a=some (Aw b off)/\w1.cell? (Aw b (off+i))=some (Iv (at0 ks i))):=Hd fun i hi=>by
  obtain⟨o,m,V,_,_,_,h4⟩:=t1;rw[gd] at h4;exact(hl _ _ h4.1.1).z.cells i hi
 have HV:Hq (∀ q,Cl 62 #[Pt mb] (w1.drewN q) fun x w'=>x=.returned (Iv n)/\w1.drewN q=w'):=Hd fun q=>(t1.below gm (Am w1 q)).vars
 have hw:Hq (∀ q,Cl 19 #[Pt mb] (w1.drewN q) fun x w'=>∃ v,x=.returned v/\OwnI w' (w1.drewN q).heap.size v zs/\FxO K n room w0 mb ws0 C o0 wb (fun W o=>B1 W o/\AW v zs W o) (fun l=>l.map Int.ofNat=zs) fs nx w'/\Bw w1 w'):=Hd fun q=>by
  refine((t1.below gm (Am w1 q)).order gm).mono ?_;rintro x w' ⟨v,l,rfl,-,hP,-,ho,hf,hb⟩;rw[hP] at hf ho;exact⟨v,rfl,ho,hf.imp (P':=fun l=>l.map Int.ofNat=zs) fun l' _ e=>by rw[e];exact hP,(Am w1 q).trans (hb.mono (Am w1 q).size)⟩
 obtain⟨c0,c1⟩:w1.cell? (Av D)=some (Iv (lv:Nat))/\w1.cell? (Av (D+1))=some (Iv (wd:Nat)):=by
  obtain⟨o,m,V,_,_,_,h4⟩:=t1;rw[gd] at h4;exact⟨h4.1.2.cell,h4.2.cell⟩
 have kx:ks.length<=9223372036854775807:=by
  obtain⟨o,m,V,_,_,_,h4⟩:=t1;rw[gd] at h4;exact(hl _ _ h4.1.1).z.len
 obtain⟨N,hN⟩:=Ex ks.length;rw[<- hN] at hF hG kx ⊢;have HN:=Hd hN;have HW1:=Hd gw.symm;have HH:=Hd (And.intro hlen hmm);clear h hN gw t1
 go_enter func41,ntmps41
 go_upto_region 1 with fail;rw[<- hD,HW1.o];clear HW1 hD;go_wp2_with fail
 go_loopw [8,9,11,28] (fun s8 s9 _ s28 wr=>∃ i:Nat,i<=N/\s8=Iv 0/\s9=Iv 0/\s28=Iv (i:Nat)/\wr=w1) (fun _ _ _ s28 _=>N-(intOf s28).toNat)
 case atStart=>exact⟨0,VC _,rfl,rfl,rfl,rfl⟩
 case round =>
  obtain⟨i,hi,rfl,rfl,rfl,rfl⟩:=hrel
  by_cases g0:i<N
  ·obtain⟨b,off,rfl,ci⟩:=hG.o i g0;have HI:=Hd (hF.o i g0);obtain⟨k1,gU⟩:=Ex (at0 ks i);rw[<- gU] at ci HI;have kL:(i:Int)<(N:Int):=by omega
   clear gU hw HV;go_wp2_with fail;refine HI.o.mono ?_;rintro x w2 ⟨rfl,rfl⟩;clear HI;go_wp2_with fail;go_roundw
   case rel=>exact⟨i+1,g0,rfl,rfl,by go_num,(by first|rfl|trivial)⟩
   case measure=>simp[intOf];omega
  ·obtain rfl:i=N:=by omega
   have g1:¬ (wd:Int)<1:=by omega
   have g2:¬ (wd:Int)>4:=by omega
   have g3:¬ (lv:Int)<0:=by omega
   have g4:¬ (lv:Int)>(n:Int)-(wd:Int):=by omega
   have kH:(n:Int)<=64:=by omega
   have g5:IntKind.i64.wrap ((n:Int)-(wd:Int))=(n:Int)-(wd:Int):=Xf _ (by omega);clear hF hG;go_wp2_with fail
   go_quiet ((with_reducible exact BI (HV.o _)))
   have HO:=Hd (hw.o nq);have d0:(wr.drewN nq).cell? (Av D)=some (Iv (lv:Nat)):=c0;have d1:(wr.drewN nq).cell? (Av (D+1))=some (Iv (wd:Nat)):=c1;obtain⟨wq,gP⟩:∃ W,W=wr.drewN nq:=⟨_,rfl⟩;rw[<- gP] at HO d0 d1 ⊢;have kP:Bw wr wq:=by rw[gP];exact Am wr nq
   clear gP hw HV;go_wp2_with fail;refine HO.o.mono ?_;rintro x w2 ⟨vn,rfl,ho,gY,h6⟩;obtain⟨g,cap,rfl,hg,kN⟩:=ho.shape (by omega);have kl:n<=cap:=by
    rcases ho.2 with ⟨hv,_⟩|⟨g',cap',cur,hv,_,_,h4,_⟩
    . cases hv
    . cases hv;omega
   obtain⟨bn,gf⟩:∃ q,q=w2.heap.size:=⟨_,rfl⟩;obtain⟨w3,gi⟩:∃ W,W=w2.alloc (.cells #[.slice (some (Av g)) n cap] 22):=⟨_,rfl⟩;rw[hzl] at ho gY ⊢;have gn:Bw w2 w3:=by rw[gi];exact Ah _ _
   have hU:w3.heap.size=bn+1:=by rw[gi,gf];simp
   have k3:w3.heap[bn]?=some (.cells #[.slice (some (Av g)) n cap] 22 (0,0)):=by rw[gi,gf];exact Vv _ _
   have e1:w3.cell? (Av bn)=some (.slice (some (Av g)) n cap):=cell1 k3;have d0':=Cq h6 c0;have d1':=Cq h6 c1;have e2:=Cq gn d0';have e3:=Cq gn d1';have hS:SliceIs w3 (.slice (some (Aw g lv)) wd (cap-lv)) ((zs.drop lv).take wd):=by
    have kp:=((ho.below gn).sliceOf (by omega));obtain⟨a',c',e',kt⟩:=kp;injection e' with e1' e2' e3'
    subst e1';refine⟨_,_,by rw[Wz,XH,Nat.min_eq_left (by omega)],⟨by simp;omega,fun j hj=>?_⟩,fun e=>by cases e⟩;rw[Wz,XH] at hj;obtain⟨b',off',e4,h4⟩:=kt.cells (lv+j) (by omega);cases e4;refine⟨g,lv,rfl,?_⟩;rw[VW] at h4;rw[h4,E1 (by omega),Fm]
   have kf:=Hd (No hS (by simp;omega));have k4:=Hd gi.symm;have kd:=Hd gY;have kD:=Hd ho;have hJ:=Hd gn;have kr:(lv:Int)<=(lv:Int)+(wd:Int):=by omega
   have kq:(lv:Int)+(wd:Int)<=(cap:Int):=by omega
   have ki:=Hd gf;have ka:=Hd k3;have kQ:D+1<bn:=by rw[gf];exact Af d1'
   have he:=Hd hU;clear HO gY ho gn gi k3 hS d0 d1 d0' d1' h6 c0 c1 hU;go_upto_region 12 with fail;rw[<- gf,k4.o];clear gf k4 g1 g2 g3 g4 g5;go_wp2_with fail;refine kf.o.mono ?_;rintro x w4 ⟨vv,rfl,gE,gc⟩;obtain⟨gv,cv,rfl,hY,gV⟩:=gE.shape (by simp;omega);have hO:((zs.drop lv).take wd).length=wd:=by simp;omega
   rw[hO] at gE ⊢;obtain⟨bv,gH⟩:∃ q,q=w4.heap.size:=⟨_,rfl⟩;obtain⟨w5,gD⟩:∃ W,W=w4.alloc (.cells #[.slice (some (Av gv)) wd cv] 22):=⟨_,rfl⟩;have gI:Bw w4 w5:=by rw[gD];exact Ah _ _
   have k5:w5.heap[bv]?=some (.cells #[.slice (some (Av gv)) wd cv] 22 (0,0)):=by rw[gD,gH];exact Vv _ _
   have f1:w5.cell? (Av bv)=some (.slice (some (Av gv)) wd cv):=cell1 k5;have f3:=(gI.cell (p:=(Av (D+1))) (Af (Cq gc e3))).trans (Cq gc e3);have k7:=Hd (U0 (gE.below gI) hO (by omega));have k0:=Hd gD.symm;have hI:=Hd gc;have hH:=Hd gI;have kg:=Hd gH;have HG:=Hd (And.intro hY gV);have hE:=Hd k5;clear kf gD gc gI k5 gE hY gV e1 e2 e3;go_upto_region 13 with fail;rw[<- gH,k0.o];clear gH k0 kr kq;go_wp2_with fail;refine k7.o.mono ?_;rintro x w6 ⟨rfl,vs,⟨hR,gj,hQ⟩,gR,gQ⟩;have hW:∀ {q:Nat},q≠gv->q<w5.heap.size->w6.heap[q]?=w5.heap[q]?:=fun h1 h2=>gQ.keep _ h2 h1
   have f6:w6.cell? (Av (D+1))=some (Iv (wd:Nat)):=(Wl (w:=w5) (hW (q:=D+1) (by have h1:=HG.o.1;have h2:=he.o;omega) (Af f3))).trans f3;have HA:=Hd (QI hw4 w6);have gq:=Hd (And.intro gR gQ);have g9:=Hd (And.intro hR (And.intro gj hQ));clear k7 f1 f3 hW gR gQ hR gj hQ;go_wp2_with fail;refine HA.o.mono ?_;rintro x w7 ⟨rfl,h0⟩;obtain⟨L,hL⟩:=Ex (ordR wd wd []);rw[<- hL];have gu:=Hd h0;have HL:=Hd hL;have kB:L.length<=24:=by rw[hL];exact ord24 hw4
   have f7:=Cq h0 f6;clear HA h0 hL f6;obtain⟨br,ge⟩:∃ q,q=w7.heap.size:=⟨_,rfl⟩;obtain⟨w8,gC⟩:∃ W,W=w7.alloc (.cells (tabC L) 131):=⟨_,rfl⟩;have kw:(storeCells (Av w7.heap.size) (tabC L).toList).run prog (w7.alloc (.cells Tryz.zeroCells131 131))=.ok () w8:=by
    rw[gC]
    exact run_storeCells_new w7 _ _ (tabC L) (by rw[CI];kernel_rfl) (by rw[CI];kernel_rfl) (by
     rw[Array.all_eq_true];intro k hk;have kz:k<96:=by rw[CI] at hk;exact hk
     have:=FN L kz;rw[Array.getElem?_eq_getElem hk] at this;rw[Xp this];rfl)
   have gg:Bw w7 w8:=by rw[gC];exact Ah _ _
   have k8:w8.heap[br]?=some (.cells (tabC L) 131 (0,0)):=by rw[gC,ge];exact Vv _ _
   have f8:=Cq gg f7;have kI:∀ (fn:Fn) (first cap:Array Value) (w:Wd),(Instr.makeFunc fn first cap).run prog w=.ok (.func fn first cap) w:=fun _ _ _ _=>rfl
   have kh:=Hd ge;have gt:=Hd gg;have k9:=Hd k8;clear gC gg k8 f7;go_upto_region 15 with fail;rw[<- ge];clear ge kw;go_upto_region 17 with fail
   have kc:Hq (FxO K n room w0 mb ws0 C o0 wb (fun W o=>B W o/\W22B ⟨bn,D+1,bv,br,D⟩ zs vs lv wd L (.slice (some (Av g)) n cap) (.slice (some (Av gv)) wd cv) W o) (fun l=>l.map Int.ofNat=zs) fs nx w8):=Hd (by
    have z3:=he.o;have z4:=hI.o.size;have z5:=hH.o.size;have z6:=gq.o.2.size;have z7:=gu.o.size;have z8:=gt.o.size;have zg:=HG.o.1;have zv:=kg.o;have zb:=ki.o;have zr:=kh.o;have zg2:=HG.o.2;have h5:Bw w3 w6:=(hI.o.trans (hH.o.mono z4)).trans (gq.o.2.below (fun k hk=>by omega) (by omega));have gg:Bw w3 w8:=(h5.trans (gu.o.mono h5.size)).trans (gt.o.mono (by have:=h5.size;omega));have km:Bw w2 w8:=hJ.o.trans (gg.mono hJ.o.size);have b57:∀ {q:Nat},q≠gv->q<w5.heap.size->w8.heap[q]?=w5.heap[q]?:=fun h1 h2=>(gt.o.block _ (by omega)).trans ((gu.o.block _ (by omega)).trans (gq.o.2.keep _ h2 h1))
    have kn:w8.heap[bn]?=some (.cells #[.slice (some (Av g)) n cap] 22 (0,0)):=(gg.block bn (by omega)).trans ka.o;have kv:w8.heap[bv]?=some (.cells #[.slice (some (Av gv)) wd cv] 22 (0,0)):=(b57 (by omega) (Vr.1 hE.o).1).trans hE.o;have kj:SliceIs w8 (.slice (some (Av gv)) wd cv) vs:=(gq.o.1.sliceIs (by have:=g9.o.2.1;omega)).below (gu.o.trans (gt.o.mono z7));refine kd.o.mineB (gm.and AW.keep) km fun o g0 hh=>?_
    obtain⟨gG,kA⟩:=hh;rw[gd] at gG;exact⟨gG.1.1,⟨gG.1.2,gG.2⟩,⟨⟨kn,g0.none (b:=bn) (by omega)⟩,kA⟩,⟨⟨kv,g0.none (b:=bv) (by omega)⟩,kj,fun k hk=>by cases hk;exact⟨show gv<w8.heap.size by omega,g0.none (b:=gv) (by omega)⟩⟩,k9.o,g0.none (b:=br) (by omega)⟩)
   obtain⟨o8,m8,V8,x1,x2,x3,h9⟩:=kc.o;have gy:wb.heap.size<=w8.heap.size/\w0.heap.size<=w8.heap.size:=⟨x1.size,x3.chg.size⟩;have gJ:∀ W o,BfB o8 w8 W o->B W o/\W22S ⟨bn,D+1,bv,br,D⟩ zs vs lv wd L W:=fun W o hh=>⟨hB _ _ _ _ h9.1 hh,(W22B.keep _ _ _ _ h9.2 hh).s⟩
   obtain⟨wz,g7⟩:∃ f:Nat->List Int,f=fun k=>winZ zs vs lv (L.getD k []):=⟨_,rfl⟩
   obtain⟨SZ,go⟩:∃ s,s=sizes22 n Fs zs vs lv wd:=⟨_,rfl⟩;have h8:∀ k,k<L.length->L.getD k []∈ordR wd wd []:=fun k hk=>by
    rw[<- HL.o,List.getD,VA hk];exact VG hk
   have g6:Hq (SZ.length=L.length):=Hd (by rw[go,HL.o];simp[sizes22]);have hd:Hq (∀ k,k<L.length->SZ.take (k+1)=SZ.take k++[((szO n Fs (wz k):Nat):Int)]):=Hd fun k hk=>by
    rw[Vz (by rw[g6.o];exact hk)];congr 2;subst go g7;have e:=HL.o;subst e;simp only[sizes22,X3,List.getD,VA hk,XR]
   have ha:Hq (∀ k,k<L.length->A7 (wz k)=true/\(wz k).length=n):=Hd fun k hk=>by
    obtain⟨p1,p2,_⟩:=Gq (h8 k hk) g9.o.2.1;have hp:=Jm (lv:=lv) (by omega) g9.o.1 p1 p2;have hX:(winZ zs vs lv (L.getD k [])).length=n:=by rw[hp.length_eq];exact hzl
    have hq:=E3 hzr hzl;rw[g7];exact⟨G3 ⟨hp.nodup_iff.2 hq.1,fun x hx=>hq.2 x (hp.mem_iff.1 hx)⟩ hX,hX⟩
   obtain⟨T,hT⟩:=Ex (fun k u Q W=>FxO K n room w0 mb ws0 C o0 wb (fun W o=>BfB o8 w8 W o/\SzB w8.heap.size u (SZ.take k) W o) Q fs nx W:Nat->Value->(List Nat->Prop)->Wd->Prop)
   have k6:Hq (T 0 (.slice none 0 0) (fun _=>True) w8):=Hd (by
    rw[hT];exact⟨o8,m8,V8,x1,x2,x3.withOd trivial,ChgX.of_below (VI _ _) _ _,⟨rfl,.inl ⟨rfl,rfl⟩⟩,fun k hk=>by cases hk⟩)
   have gh:Hq (∀ k j u W,k<L.length->T j u (fun _=>True) W->Cl 99 #[Iv (k:Nat),Pt bn,Pt (D+1),Pt bv,Pt br,Pt D] W fun x w'=>∃ v,x=.returned v/\Hq (Cl 100 #[Pt mb,v] w' fun x w2=>x=.returned (Iv 0)/\T j u (fun l=>l.map Int.ofNat=wz k) w2)):=by
    intro k j u W hk ht;rw[hT] at ht;have hs:W22S ⟨bn,D+1,bv,br,D⟩ zs vs lv wd L W:=ht.know fun W o hh=>(gJ W o hh.1).2
    obtain⟨p1,p2,p3⟩:=Gq (h8 k hk) g9.o.2.1;have hK:=Up (k:=k) hs (by omega) rfl p2 hw4 hw1 p3 g9.o.2.1 (by omega) (by omega);refine Calls.mono hK ?_;rintro x w' ⟨v,rfl,hv,hb⟩;refine⟨v,rfl,Hd ?_⟩;have gj:(winZ zs vs lv (L.getD k [])).length=n:=by
     have:=(ha.o k hk).2;rw[g7] at this;exact this
    have hm:=ht.mine (BfB.keep.and SzB.keep) hb (hv.sliceIs (by rw[gj];omega)) (fun q hq=>hv.lt q hq);have ge:=Nv ((BfB.keep.and SzB.keep).and AW.keep) hm hn hr (fun W o hh=>hh.2.slice) (by have:=(ha.o k hk).1;rw[g7] at this;exact this) gj;refine ge.mono fun x w2 hh=>⟨hh.1,?_⟩
    rw[hT,g7];exact hh.2.withB fun _ _ _ _ q=>q.1
   have gB:Hq (∀ k u W,k<L.length->T k u (fun l=>l.map Int.ofNat=wz k) W->Cl 65 #[Pt mb,.slice a i c] W fun x w'=>x=.returned (.tuple #[Iv (szO n Fs (wz k):Nat),Iv 0])/\T k u (fun l=>l.map Int.ofNat=wz k) w'):=by
    intro k u W hk ht;rw[hT] at ht;have:=FxO.size (c:=c) (BfB.keep.and SzB.keep) ht (fun W o hh=>hl W o (gJ W o hh.1).1) hlen hmm;rw[<- HN.o] at this;refine this.mono fun x w' hh=>⟨hh.1,?_⟩
    rw[hT];exact hh.2
   have hz:Hq (∀ k u W v W',k<L.length->T k u (fun l=>l.map Int.ofNat=wz k) W->OwnI W' w8.heap.size v (SZ.take k++[((szO n Fs (wz k):Nat):Int)])->Below w8.heap.size W W'->BA u v W W'->T (k+1) v (fun _=>True) W'):=Hd fun k u W v W' hk ht ho hb ky=>by
    rw[hT] at ht ⊢;have:=(ht.imp (P':=fun _=>True) fun _ _ _=>trivial).app22 gy.1 gy.2 ho hb ky;rw[<- hd.o k hk] at this;exact this
   have gK:Hq (∀ k u Q W,T k u Q W->OwnI W w8.heap.size u (SZ.take k)/\w8.heap.size<=W.heap.size):=Hd fun k u Q W ht=>by
    rw[hT] at ht;exact ht.know (Q:=fun W=>OwnI W w8.heap.size u (SZ.take k)/\w8.heap.size<=W.heap.size) fun W o hh=>⟨hh.2.1,hh.1.size⟩
   have gM:Hq (∀ b u W,AU SZ L.length b->T L.length u (fun l=>l.map Int.ofNat=wz b) W->FxO K n room w0 mb ws0 C o0 wb B (fun l=>l.map Int.ofNat=winZ zs vs lv ((ordR wd wd []).getD b [])) fs nx W):=Hd fun b u W _ ht=>by
    rw[hT,g7,HL.o] at ht;exact ht.withB fun _ _ _ _ hh=>(gJ _ _ hh.1).1
   have gL:Hq (∀ b,b<L.length->at0 SZ b=((szO n Fs (wz b):Nat):Int)/\szO n Fs (wz b)=szO n Fs (winZ zs vs lv ((ordR wd wd []).getD b []))):=Hd fun b hb=>by
    refine⟨?_,by rw[g7,HL.o]⟩;rw[As (by rw[g6.o];exact hb)];subst go g7;have e:=HL.o;subst e;simp only[sizes22,X3,List.getD,VA hb,XR]
   have gN:Hq (∀ b,AU SZ L.length b->AU (sizes22 n Fs zs vs lv wd) (ordR wd wd []).length b):=Hd fun b hb=>by rw[<- go,<- HL.o];exact hb
   have h7:0<L.length:=by rw[HL.o];exact U1 wd
   have ke:=Hd Ul;have kk:∀ k,szO n Fs (wz k)<=1000000000:=fun k=>Vy (Jj n Fs (wz k)) hsz
   have hc:=Hd (And.intro g9.o.1 g9.o.2.2);obtain⟨LN,hZ⟩:∃ q,q=L.length:=⟨_,rfl⟩;rw[<- hZ] at kB g6 hd ha gh gB hz gM gL gN h7 ⊢;clear hT gJ h8 x1 x2 x3 h9 hZ g7 go kc f8 kd kD gq hJ hI hH gu gt ka hE k9 he HG kg ki kh g9 HL gy gd gm kl;go_wp2_with fail
   go_loopw [8,9,17,18,19,20,21,73] (fun s8 s9 s17 _ _ _ _ s73 wr=>∃ (k:Nat) (u:Value),k<=LN/\s8=Iv 0/\s9=Iv 0/\s17=u/\s73=Iv (k:Nat)/\Hq (T k u (fun _=>True) wr)) (fun _ _ _ _ _ _ _ s73 _=>LN-(intOf s73).toNat)
   case atStart=>exact⟨0,_,VC _,rfl,rfl,rfl,rfl,k6⟩
   case round =>
    obtain⟨k,u,hk,rfl,rfl,rfl,rfl,gp⟩:=hrel;clear k6
    by_cases g0:k<LN
    ·have kK:(k:Int)<(LN:Int):=by omega
     have HA:=Hd (gh.o k k _ _ g0 gp.o);have eg:=ke.o;clear gp gM gL gN hc;go_wp2_with fail;refine HA.o.mono ?_;rintro x w9 ⟨v9,rfl,gr⟩;clear HA eg;go_wp2_with fail;refine gr.o.mono ?_;rintro x w10 ⟨rfl,g8⟩;have hu:=Hd (gB.o k _ _ g0 g8);clear gr g8;go_wp2_with fail;refine hu.o.mono ?_;rintro x w11 ⟨rfl,gx⟩;obtain⟨gS,gO⟩:=gK.o _ _ _ _ gx;have ku:=kk k;obtain⟨sx,ga⟩:∃ q,q=szO n Fs (wz k):=⟨_,rfl⟩;have hA:Hq (∀ v W',OwnI W' w8.heap.size v (SZ.take k++[(sx:Int)])->Below w8.heap.size w11 W'->BA u17 v w11 W'->T (k+1) v (fun _=>True) W'):=Hd (by rw[ga];exact fun v W' h1 h2 h3=>hz.o k _ _ v W' g0 gx h1 h2 h3);have hy:=Hd gS;rw[<- ga] at ku ⊢;have kJ:(SZ.take k).length<=24:=by rw[Wz];omega
     clear ga gx gS hu;go_wp2_with (at_builtin;refine CO _ rfl _ _ rfl w8.heap.size w11 u17 (SZ.take k) (sx:Int) rfl rfl rfl rfl hy.o (by omega) gO (VI _ _) ?_;intro v4 w4 gF gc kF gT);have HN:=Hd (hA.o v4 w4 gF gc gT);clear gF gc gT hA hy gO;go_roundw
     case rel=>exact⟨k+1,_,g0,rfl,rfl,rfl,by go_num,HN⟩
     case measure=>simp[intOf];omega
    ·obtain rfl:k=LN:=by omega
     obtain⟨gl,kG⟩:=gK.o _ _ _ _ gp.o;have gk:SZ.take k=SZ:=by rw[<- g6.o,Wb]
     rw[gk] at gl;obtain⟨gs,cs,rfl,kM,_⟩:=gl.shape (by rw[g6.o];exact h7);obtain⟨as',cs',e',hM⟩:=gl.sliceOf (by rw[g6.o];omega);injection e' with e1' e2' e3'
     subst e1';have hC:=Hd (Uq (c:=cs) hM (by rw[g6.o];exact h7) (by rw[g6.o];omega));rw[g6.o] at hC gl ⊢;have gA:=Hd gp.o;rw[g6.o] at gA;clear hM e2' e3' gl gp gk gB hz hd;go_wp2_with fail;refine hC.o.mono ?_;rintro x wr' ⟨b,rfl,gX,rfl⟩;have kb:=Hd gX;have gZ:b<k:=gX.1;have HA:=Hd (gh.o b k _ _ gZ gA.o);have eg:=ke.o;clear hC gX gh;go_wp2_with fail;refine HA.o.mono ?_;rintro x w9 ⟨v9,rfl,gr⟩;clear HA eg;go_wp2_with fail;refine gr.o.mono ?_;rintro x w10 ⟨rfl,g8⟩;obtain⟨gz,kE⟩:=gK.o _ _ _ _ g8;have gk:SZ.take k=SZ:=by rw[<- g6.o,Wb]
     rw[gk] at gz;have c10:=gz.cell b (by rw[g6.o];exact gZ);obtain⟨v1,v2⟩:=gL.o b gZ;rw[v1,v2] at c10;have HF:=Hd (gM.o b _ _ kb.o g8);have ko:=Hd (gN.o b kb.o);have kO:(b:Int)<(k:Int):=by omega
     obtain⟨sx,ga⟩:∃ q,q=szO n Fs (winZ zs vs lv ((ordR wd wd []).getD b [])):=⟨_,rfl⟩;have kC:=Hd ga;rw[<- ga] at c10;clear gr g8 gz v1 v2 ga gM gL gN gK gA gk;go_wp2_with fail
     first|go_ret|go_ret2|go_ret3
     exact⟨vs,b,hc.o.1,hc.o.2,ko.o,by rw[<- kC.o];rfl,HF.o⟩
end
end Go.Proofs.YtkidaindpahefaaGreat

namespace Go.Proofs
open Go.Proofs.Tryz
open Go.Shelf
end Go.Proofs

namespace Go.Proofs.YtkidaindpahefaaGreat
open Go.Proofs.Tryz
open Go.RowKit
variable {B:Wd->Own->Prop}{C:Nat->Prop}{F:BF}{Fs:List BF}{K:Law}{Od P':List Nat->Prop}{P:Program}{Q:Exit->Act->Wd->Prop}{S:Wd->Prop}{V:Nat->BF}{W W' w w' w0 wb:Wd}{a:Act}{args:Array Value}{b i k lv mb n room wd:Nat}{bs:List Bool}{fs hs r:List (Int×BF)}{gs:List (List Int)}{last:Bool}{m:ManD}{nx:Int}{o0:Own}{ops:Array Oper}{v vl vx:Value}{vs zs:List Int}{ws0:List Ev}
section
def Gr (K:Act->Wd->Prop):Exit->Act->Wd->Prop:=fun x a w=>x=.normal/\K a w
theorem Ny {K:Act->Wd->Prop}:¬ LetsOut (Gr K):=fun⟨_,_,h,_⟩=>by cases h
theorem U2 {o:Oper}{K:Act->Wd->Prop}(h:o.wp P a w (fun a w=>Gr K .normal a w) (Gr K)):o.wp P a w K Q:=by
 unfold Oper.wp at *
 generalize (execOp a.eval o).run P w=r at *
 cases r with
 | ok n w' =>
   cases n<;>simp only[Oper.upon] at h⊢<;>
    first
     | exact h.2
     | exact Calls.mono h (fun e w'' he=>by cases e<;>first|exact he.2|exact absurd he Ny|cases he.1)
     | exact Rows.mono h (fun _ _ he=>he.2)
 | halt x w'=>cases x<;>simp only[Oper.upon] at h⊢<;> first|exact h|cases h.1
theorem Jn {o:Oper}{r:List (Option Oper×Bool)}(hg:o.guard=none)
 (h:wpList P ops (Gr fun a' w'=>S w'/\A0 P ops Q S last r a' w') [o] a w):A0 P ops Q S last ((some o,true)::r) a w:=by
 refine E7 hg fun K hK=>?_
 have hw:Region.wanted o (yielded ops a.tmps)=true:=by simp[Region.wanted,hg]
 unfold wpList at h;rw[Vw hw] at h;rcases h with h|⟨_,h⟩
 . refine Oper.wp_mono (K:=fun a' w'=>S w'/\A0 P ops Q S last r a' w') (fun a' w' hh=>hK a' w' hh.1 hh.2) (U2 h)
 . exact absurd h Ny
end
theorem Nz {o:Oper}{r:List (Option Oper×Bool)}{f:FuncId}{R:Value->Wd->Prop}(hw:Region.wanted o (yielded ops a.tmps)=true)
 (he:(execOp a.eval o).run P w=.ok (.enter f args) w) (hc:Calls P f args w fun e w'=>∃ v,e=.returned v/\S w'/\R v w')
 (h:∀ v w',S w'->R v w'->A0 P ops Q S last r (a.put o.dst v) w'):A0 P ops Q S last ((some o,true)::r) a w:=by
 unfold A0;simp only[hw,Wy,Oper.wp,he,Oper.upon];exact hc.mono fun e w' ⟨v,h1,h2,h3⟩=>by subst h1;exact⟨.inr h2,h v w' h2 h3⟩
theorem U3 (hi:i<gs.length):gs.getD i []∈gs:=by
 have e:gs.getD i []=gs[i]:=by simp[List.getD,hi]
 rw[e];exact VG _
section
variable {gb:Nat}{P:List Nat->Prop}{lv:Value}
theorem U4 (hB:AA B)(h:FxO K n room w0 mb ws0 C o0 wb B P fs nx W)(hn:nx<=549755813888)(hr:3*(fs.length*2^n)<=room)(hz:∀ W o,B W o->SliceIs W v zs)(hzr:A7 zs=true)(hzl:zs.length=n) :
 Cl 44 #[Pt mb,v] W fun x w'=>x=.returned (Iv 0)/\FxO K n room w0 mb ws0 C o0 wb B (fun l=>l.map Int.ofNat=zs) fs nx w':=by
 have hn64:n<=64:=by obtain⟨o,m,V,_,_,h3,_⟩:=h;have:=h3.ok.store.small;rw[h3.vars] at this;exact this
 have HV:=Hd h.vars;have g2:Hq (∀ w',Bw W w'->Cl 100 #[Pt mb,v] w' fun x w'=>x=.returned (Iv 0)/\FxO K n room w0 mb ws0 C o0 wb B (fun l=>l.map Int.ofNat=zs) fs nx w'):=Hd fun w' hb=>Nv hB (h.below hB hb) hn hr hz hzr hzl
 have hs:SliceIs W v zs:=h.know (Q:=fun W=>SliceIs W v zs) fun W o hh=>hz W o hh
 obtain⟨a,c,rfl,g0,_⟩:=hs;have HZ:=Hd g0;have HR:=Hd hzr;subst hzl;clear h hB hz g0 hzr hr
 go_enter func44,ntmps44
 go_wp2_with fail;refine HV.o.mono ?_;rintro x w' ⟨rfl,rfl⟩;go_wp2_with fail;refine(Db _ _ zs _ HZ.o (by omega)).mono ?_;rintro e w1 ⟨rfl,g1⟩;rw[HR.o];have HB2:=Hd (g2.o w1 g1);clear g1 g2;go_wp2_with fail;refine HB2.o.mono ?_;rintro x w2 ⟨rfl,h2⟩;have H2:=Hd h2;clear h2 HB2;go_wp2_with fail;go_ret;exact⟨rfl,H2.o⟩
end
section
variable {P:List Nat->Prop}
theorem Vq (hB:AA B)(h:FxO K n room w0 mb ws0 C o0 wb B P fs nx W)(hz:SliceIs W v zs)(hno:¬ (zs.length=n/\A7 zs=true)) :
 Cl 44 #[Pt mb,v] W (Bl (Iv 1) W):=by
 have hn64:n<=64:=by obtain⟨o,m,V,_,_,h3,_⟩:=h;have:=h3.ok.store.small;rw[h3.vars] at this;exact this
 have HV:=Hd h.vars;obtain⟨a,c,rfl,g0,_⟩:=hz
 by_cases hl:zs.length=n
 ·have hr:A7 zs=false:=by
   cases e:A7 zs with
   | true=>exact(hno ⟨hl,e⟩).elim
   | false=>rfl
  have g1:=Hd (Db a c zs W g0 (by omega));rw[hr,hl] at g1;rw[hl];clear h hB g0 hno hr hl
  go_enter func44,ntmps44
  go_wp2_with fail;refine HV.o.mono ?_;rintro x w' ⟨rfl,rfl⟩;go_wp2_with fail;refine g1.o.mono ?_;rintro e w1 ⟨rfl,g2⟩;have g4:=Hd g2;clear g2 g1;go_wp2_with fail;go_ret;exact⟨rfl,g4.o⟩
 ·have g3:((zs.length:Int) != (n:Int))=true:=by rw[bne_iff_ne];omega
  obtain⟨N,hN⟩:=Ex zs.length;rw[<- hN] at g3 ⊢;clear h hB g0 hno hl hN
  go_enter func44,ntmps44
  go_wp2_with fail;refine HV.o.mono ?_;rintro x w' ⟨rfl,rfl⟩;go_wp2_with fail;go_ret;exact⟨rfl,VI _ _⟩
theorem U5 (hB:AA B)(h:FxO K n room w0 mb ws0 C o0 wb B P fs nx W){f t:Int}(hno:¬ ((0<=f/\f<(n:Int))/\0<=t/\t<(n:Int))) :
 Cl 47 #[Pt mb,Iv f,Iv t] W (Sm (Iv 2) W):=by
 have HV:=Hd h.vars;have hc:f<0\/(¬ f<0/\f>=(n:Int))\/(¬ f<0/\¬ f>=(n:Int)/\t<0)\/(¬ f<0/\¬ f>=(n:Int)/\¬ t<0/\t>=(n:Int)):=by omega
 clear h hB hno;rcases hc with g1|⟨g1,g2⟩|⟨g1,g2,g3⟩|⟨g1,g2,g3,g4⟩
 ·go_enter func47,ntmps47
  go_wp2_with fail;go_ret;exact⟨rfl,rfl⟩
 ·go_enter func47,ntmps47
  go_wp2_with fail;refine HV.o.mono ?_;rintro x w' ⟨rfl,rfl⟩;go_wp2_with fail;go_ret;exact⟨rfl,rfl⟩
 ·go_enter func47,ntmps47
  go_wp2_with fail;refine HV.o.mono ?_;rintro x w' ⟨rfl,rfl⟩;go_wp2_with fail;go_ret;exact⟨rfl,rfl⟩
 ·go_enter func47,ntmps47
  go_wp2_with fail;refine HV.o.mono ?_;rintro x w' ⟨rfl,rfl⟩;go_wp2_with fail;refine HV.o.mono ?_;rintro x w' ⟨rfl,rfl⟩;go_wp2_with fail;go_ret;exact⟨rfl,rfl⟩
end
theorem U6 (w:Wd)(base:Nat):OwnI w base (.slice none 0 0) []:=⟨rfl,.inl ⟨rfl,rfl⟩⟩
theorem N1 (a a':Option Addr)(c c':Nat)(xs ys:List Int)(w:Wd)(h:Ar w a xs)(h':Ar w a' ys) :
 Cl 95 #[.slice a xs.length c,.slice a' ys.length c'] w fun e w'=>e=.returned (.bool (decide (xs=ys)))/\∃ n,w'=w.drewN n:=by
 obtain⟨hl,hc⟩:=h;have HC:=Hd hc;clear hc;obtain⟨g7,g1⟩:=h';have g4:=Hd g1;clear g1
 by_cases g0:xs.length=ys.length
 ·have H1:(xs.length == ys.length)=true:=by simpa using g0
  have HL:=Hd g0;have g6:xs.length<=ys.length:=by omega
  have g8:ys.length<=xs.length:=by omega
  have H2:((xs.length:Int) == ys.length)=true:=by simp[g0]
  have H3:((xs.length:Int) != ys.length)=false:=by simp[g0]
  clear g0
  go_enter func95,ntmps95
  go_wp2
  go_loopw [5] (fun i wr=>∃ k:Nat,k<=xs.length/\i=Iv k/\(∀ j,j<k->at0 xs j=at0 ys j)/\∃ n,wr=w.drewN n) (fun i _=>xs.length-(intOf i).toNat)
  case atStart=>exact⟨0,VC _,rfl,by omega,0,rfl⟩
  case round =>
   obtain⟨k,hk,rfl,hrel,n,rfl⟩:=hrel;have HR:=Hd hrel;clear hrel
   by_cases g2:k<xs.length
   ·obtain⟨b,off,rfl,g5⟩:=HC.o k g2;obtain⟨b',off',rfl,g3⟩:=g4.o k (by omega)
    by_cases hx:at0 xs k=at0 ys k
    ·have H4:(at0 xs k != at0 ys k)=false:=by simpa using hx
     have HX:=Hd hx;clear hx
     go_wp2
     go_region
     go_wp2
     go_roundw
     case rel=>exact⟨k+1,by omega,by go_num,(fun j hj=>by
      by_cases e:j=k
      . subst e;exact HX.o
      . exact HR.o j (by omega)),_,rfl⟩
     case measure=>simp[intOf];omega
    ·have H4:(at0 xs k != at0 ys k)=true:=by simpa using hx
     go_wp2
     go_region
     go_wp2
     go_ret;exact⟨BD (by symm;simp;rintro rfl;exact hx rfl),_,rfl⟩
   ·go_wp2
    go_ret;exact⟨BD (by symm;simp;exact Ez HL.o (fun j hj=>HR.o j (by omega))),_,rfl⟩
 ·have H2:((xs.length:Int) != ys.length)=true:=by simp;omega
  go_enter func95,ntmps95
  go_wp2
  go_ret;exact⟨BD (by symm;simp;rintro rfl;exact g0 rfl),0,rfl⟩
open Go.RowKit Go.Shelf
attribute [local go_sem] XX
attribute [local go_sem] XX
section
theorem FxS.fxO (h:FxS K n room w0 mb ws0 C o0 wb B fs nx W):∃ zs:List Int,zs.length=n/\A7 zs=true/\FxO K n room w0 mb ws0 C o0 wb B (fun l=>l.map Int.ofNat=zs) fs nx W:=by
 obtain⟨o,m,V,h1,h2,h3,h4⟩:=h;have hp:=h3.ok.store.permB;exact⟨m.d.vars.map Int.ofNat,by rw[VP];exact h3.vars,IS (Gg hp),o,m,V,h1,h2,h3.withOd rfl,h4⟩
end
theorem Ct:AA fun _ _=>True:=fun _ _ _ _ _ _=>trivial
theorem N2:∀ (a b:List Int),a.Pairwise (· <= ·)->b.Pairwise (· <= ·)->a.Perm b->a=b
 | [],b,_,_,h=>(List.nil_perm.1 h).symm
 | x::a,[],_,_,h=>(List.perm_nil.1 h)
 | x::a,y::b,ha,hb,h=>by
   have h1:=Yb.1 ha;have h2:=Yb.1 hb;have e:x=y:=by
    have m1:x∈y::b:=h.mem_iff.1 (VM ..);have m2:y∈x::a:=h.mem_iff.2 (VM ..);rcases Wj.1 m1 with e|m1
    . exact e
    ·rcases Wj.1 m2 with e|m2
     . exact e.symm
     . have:=h2.1 x m1;have:=h1.1 y m2;omega
   subst e;rw[N2 a b h1.2 h2.2 (List.Perm.cons_inv h)]
theorem N3 (h:Be zs.length zs):zs.Pairwise (· <= ·):=WE.2 fun i j hi hj hij=>by
 have:=h i j hij hj
 rwa [As hi,As hj] at this
theorem U7 {a b c:List Int}(ha:Be n a)(hb:Be n b)(h1:a.Perm c)(h2:b.Perm c)(hl:c.length=n):a=b :=
 N2 a b (N3 (by rw[h1.length_eq,hl];exact ha)) (N3 (by rw[h2.length_eq,hl];exact hb)) (h1.trans h2.symm)
theorem U8 {m b':Nat}(h:AU zs m b)(h':AU zs m b'):b=b':=by
 rcases Xz b b' with e|e|e
 . have:=h'.2.2 b e;have:=h.2.1 b' h'.1;omega
 . exact e
 . have:=h.2.2 b' e;have:=h'.2.1 b h.1;omega
theorem sorted012:Be 3 [0,1,2]:=fun p q h1 h2=>by
 rcases(show (p=0/\q=1)\/(p=0/\q=2)\/(p=1/\q=2) by omega) with ⟨e,e'⟩|⟨e,e'⟩|⟨e,e'⟩<;>subst e e'<;>decide
def l22F:BF:=Bc (varF 0) (varF 1) (varF 2)
theorem N4:DepF 4 l22F:=fun ρ ρ' h=>by
 show iteB (ρ 0) (ρ 1) (ρ 2)=iteB (ρ' 0) (ρ' 1) (ρ' 2)
 rw[h 0 (by omega),h 1 (by omega),h 2 (by omega)]
theorem U9:∀ j,j<6->szC 4 l22F (winZ [1,2,0,3] [0,1,2] 0 ((ordR 3 3 []).getD 0 []))<=szC 4 l22F (winZ [1,2,0,3] [0,1,2] 0 ((ordR 3 3 []).getD j [])):=by decide +kernel
theorem UA:szC 4 l22F [0,1,2,3]=3:=by decide +kernel
theorem UB:winZ [1,2,0,3] [0,1,2] 0 ((ordR 3 3 []).getD 0 [])=[0,1,2,3]:=by decide +kernel
theorem Jo:(ordR 3 3 []).length=6:=by decide +kernel
theorem Jp (hk:k<(ordR wd wd []).length):at0 (sizes22 n Fs zs vs lv wd) k=((szO n Fs (winZ zs vs lv ((ordR wd wd []).getD k [])):Nat):Int):=by
 rw[As (by simpa [sizes22] using hk)];simp only[sizes22,X3,List.getD,VA hk,XR]
theorem UC (h1:vs.Perm ([1,2,0,3].drop 0 |>.take 3))(h2:Be 3 vs)(h3:AU (sizes22 4 [l22F] [1,2,0,3] vs 0 3) (ordR 3 3 []).length b):vs=[0,1,2]/\b=0:=by
 have hv:vs=[0,1,2]:=U7 (n:=3) (c:=[1,2,0]) h2 sorted012 h1 (by decide) rfl;subst hv;refine⟨rfl,?_⟩
 by_cases hb:b=0
 . exact hb
 . have q1:=h3.2.2 0 (by omega);have q2:=h3.1;rw[Jo] at q2;rw[Jp (by rw[Jo];exact q2),Jp (by rw[Jo];omega),Nr N4] at q1;have:=U9 b q2;omega
section
theorem FxS.ite22 (hK:AO K)(hB:AA B)(h:FxS K n room w0 mb ws0 C o0 wb B fs nx W){k1 k2 k3:Int}{F1 F2 F3:BF}(h1:(k1,F1)∈fs)(h2:(k2,F2)∈fs)(h3:(k3,F3)∈fs)(hn:nx<=549755813888)(hr:(fs.length+1)*2^n<=room) :
 Cl 94 #[Pt mb,Iv k1,Iv k2,Iv k3] W fun x w'=>x=.returned (.tuple #[Iv nx,Iv 0])/\FxS K n room w0 mb ws0 C o0 wb B (fs++[(nx,Bc F1 F2 F3)]) (nx+1) w' :=
 h.new hB fun o m V hw hs=>(Tg hK hs hw hn hr h1 h2 h3).mono fun x w' ⟨q1,o',m',V',q2,q3,q4⟩=>⟨q1,o',m',V',q2,q3,q4⟩
end
def f22L:List (Int×BF):=two++[(2,varF 0)]++[(3,varF 1)]++[(4,varF 2)]++[(5,l22F)]
section
theorem lit22 (W:Wd)(zs:List Int)(hl:zs.length<=1000):SliceIs (W.alloc (.cells (Au zs).toArray 3)) (.slice (some (Av W.heap.size)) zs.length zs.length) zs:=⟨_,_,rfl,EZ W zs (by omega),fun e=>by cases e⟩
theorem UD (h:FxS K 4 20000 w mb [] NoB o0 wb (fun _ _=>True) f22L 6 W) :
 Cl 44 #[Pt mb,.slice (some (Av W.heap.size)) 4 4] (W.alloc (.cells #[Iv 1,Iv 2,Iv 0,Iv 3] 3)) fun e w'=>e=.returned (Iv 0)/\FxO K 4 20000 w mb [] NoB o0 wb (fun _ _=>True) (fun l=>l.map Int.ofNat=[1,2,0,3]) f22L 6 w':=by
 obtain⟨zs,g1,g0,hf⟩:=h.fxO;have hm:=hf.mine Ct (Ah W _) (lit22 W [1,2,0,3] (by simp)) (fun k hk=>by cases hk;exact⟨Vu _,by simp⟩);have:=U4 (Ct.and AW.keep) hm (by omega) (by simp[f22L,two]) (fun W o hh=>hh.2.slice) (by decide +kernel) rfl;exact this.mono fun e w' hh=>⟨hh.1,hh.2.withB fun _ _ _ _ _=>trivial⟩
theorem UE (h:FxO K 4 20000 w mb [] NoB o0 wb (fun _ _=>True) (fun l=>l.map Int.ofNat=[1,2,0,3]) f22L 6 W) :
 Cl 41 #[Pt mb,Iv 0,Iv 3,.slice (some (Av W.heap.size)) 1 1] (W.alloc (.cells #[Iv 5] 3)) fun e w'=>e=.returned (.tuple #[Iv 3,Iv 0])/\FxO K 4 20000 w mb [] NoB o0 wb (fun _ _=>True) (fun l=>l.map Int.ofNat=[0,1,2,3]) f22L 6 w':=by
 have hm:=h.mineB (B2:=fun W' o'=>True/\ArgB w (some (Av W.heap.size)) [5] W' o') Ct (Ah W (.cells #[Iv 5] 3)) fun o g0 _=>⟨trivial,EZ W [5] (by simp),fun x hx=>by cases hx;exact⟨by simp,h.sizes.2,g0.none (Vu _)⟩⟩
 have:=Nw (n:=4) (fs:=f22L) (nx:=6) (c:=1) (a:=some (Av W.heap.size)) (ks:=[5]) (Fs:=[l22F]) (Ct.and ArgB.keep) (zs:=[1,2,0,3]) (by decide +kernel) rfl (lv:=0) (wd:=3) (by omega) (by omega) (by omega) (by omega) (by simp[f22L,two]) (fun _ _ hh=>hh.2) rfl (fun i hi=>by
  obtain rfl:i=0:=by have:i<1:=hi;omega
  simp[f22L]) (by simp) hm
 refine Calls.mono this ?_;rintro e w' ⟨vs,b,h1,h2,h3,rfl,h4⟩;obtain⟨rfl,rfl⟩:=UC h1 h2 h3;rw[UB] at h4 ⊢;rw[Nr N4,UA];exact⟨rfl,h4.withB fun _ _ _ _ _=>trivial⟩
end
theorem N5 (hK:AO K)(w:Wd):Cl 40 #[] w (Bl (.bool true) w):=by
 have g3:=Hd (MB (K:=K) 4 20000 w (by omega) (by omega) (by omega));have HK:=Hd hK;clear hK
 go_enter func40,ntmps40
 go_wp2_with fail;refine g3.o.mono ?_;rintro x w1 ⟨mb,rfl,o,m,V,g6,g5,_,_⟩;have H1:Hq (FxS K 4 20000 w mb [] NoB o w1 (fun _ _=>True) two 2 w1):=Hd ⟨o,m,V,ChgX.of_below (VI _ _) o NoB,by rw[g5];exact List.suffix_refl _,g6,trivial⟩;have ga:=Hd (H1.o.var (v:=0) HK.o Ct (by omega) (by simp[two]) (by omega));clear g6 g5 g3;go_wp2_with fail;refine ga.o.mono ?_;rintro x w2 ⟨rfl,h2⟩;have g9:=Hd (h2.var (v:=1) HK.o Ct (by omega) (by simp[two]) (by omega));clear h2 ga H1;go_wp2_with fail;refine g9.o.mono ?_;rintro x w3 ⟨rfl,h3⟩;have g8:=Hd (h3.var (v:=2) HK.o Ct (by omega) (by simp[two]) (by omega));clear h3 g9;go_wp2_with fail;refine g8.o.mono ?_;rintro x w4 ⟨rfl,h4⟩;have gf:=Hd (h4.ite22 HK.o Ct (k1:=2) (k2:=3) (k3:=4) (F1:=varF 0) (F2:=varF 1) (F3:=varF 2) (by simp) (by simp) (by simp) (by omega) (by simp[two]));clear h4 g8;go_wp2_with fail;refine gf.o.mono ?_;rintro x w5 ⟨rfl,h5⟩;have gc:=Hd (UD (K:=K) (W:=w5) h5);clear h5 gf;go_wp2_with fail;refine gc.o.mono ?_;rintro x w6 ⟨rfl,h6⟩;have g7:=Hd (UE h6);clear h6 gc;go_wp2_with fail;refine g7.o.mono ?_;rintro x w7 ⟨rfl,h7⟩;have HO:=Hd (h7.order Ct);clear h7 g7;go_wp2_with fail;refine HO.o.mono ?_;rintro x w8 ⟨u,l,rfl,-,hP,-,-,g1,-⟩;have gg:SliceIs w8 u [0,1,2,3]:=by
  rw[<- hP];exact g1.know (Q:=fun W=>SliceIs W u (l.map Int.ofNat)) fun W o hh=>hh.2.slice
 obtain⟨a,c,rfl,hz,-⟩:=gg;obtain⟨T,hT⟩:=Ex (w8.alloc (.cells #[Iv 0,Iv 1,Iv 2,Iv 3] 3));have g0:=N1 a (some (Av w8.heap.size)) c 4 [0,1,2,3] [0,1,2,3] T (by rw[hT];exact hz.below (Ah _ _)) (by rw[hT];exact EZ w8 [0,1,2,3] (by simp));rw[WV rfl] at g0;have gd:=Hd g0;have g2:Bw w8 T:=by rw[hT];exact Ah _ _
 have g4:Hq (∀ q,FxO K 4 20000 w mb [] NoB o w1 (fun W o=>True/\AW (.slice a 4 c) (l.map Int.ofNat) W o) (fun l'=>l'=l) f22L 6 (T.drewN q)):=Hd fun q=>g1.below (Ct.and AW.keep) (g2.trans ((Am T q).mono g2.size))
 have HT:=Hd hT.symm;clear g1 hz hP g0 hT HO g2;go_wp2_with fail;rw[HT.o];refine gd.o.mono ?_;rintro x w9 ⟨rfl,q,rfl⟩;have ge:=Hd (U5 (f:=0) (t:=4) (Ct.and AW.keep) (g4.o q) (by omega));have HB:=Hd (g4.o q).below0;clear gd HT g4;go_wp2_with fail;refine ge.o.mono ?_;rintro x w10 ⟨rfl,rfl⟩;clear ge;go_wp2_with fail;go_ret;exact⟨rfl,HB.o⟩
section
theorem UF (i n:Nat)(hi:i<=1048576)(hn:n<=16)(w:Wd):Cl 126 #[.int .u64 i,Iv n] w fun x w'=>∃ v,x=.returned v/\OwnB w' w.heap.size v (AP i n)/\Bw w w':=by
 have HH:Hq (∀ W,Cl 176 #[Iv (n:Nat),Iv 0,Iv 64] W (Sm (Iv (n:Nat)) W)):=Hd fun W=>QU n (by omega) W
 go_enter func126,ntmps126
 go_wp2_with fail
 go_loopw [0,5,6] (fun s0 s5 s6 wr=>∃ j q:Nat,j<=n/\q<=1048576/\s6=Iv j/\s0=.int .u64 q/\Hq (i/2^j=q)/\OwnB wr w.heap.size s5 (AP i j)/\w.heap.size<=wr.heap.size/\Bw w wr) (fun _ _ s6 _=>n-(intOf s6).toNat)
 case atStart=>exact⟨0,i,VC _,hi,rfl,rfl,Hd (by simp),DF _ w _ (Vu _),by simp,Ah w _⟩
 case round =>
  obtain⟨j,q,hj,hq,rfl,rfl,HQ,g0,g5,g1⟩:=hrel
  by_cases g7:j<n
  ·have HB:Hq (((q:Int).tmod 2 == 1)=bitB i j):=by
    refine Hd ?_
    show ((q:Int).tmod 2 == 1)=bitB i j
    unfold bitB;rw[HQ.o];have e1:Int.tmod (q:Int) 2=((q%2:Nat):Int):=by rw[X6 (by omega)];rfl
    rw[e1]
    by_cases h:q%2=1
    . rw[h];rfl
    ·have:((q%2:Nat):Int)≠1:=by omega
     rw[WT.2 this,WJ h]
   have g2:=Hd g0;have g3:=Hd g1;clear g0 g1;go_wp2_with fail;refine(HH.o _).mono ?_;rintro x w2 ⟨rfl,rfl⟩;go_wp2_with (at_builtin;refine Cz Du _ rfl _ _ rfl w.heap.size _ (AL (AP i j)) _ rfl rfl rfl rfl rfl (by exact g2.o) (by simp[AL,FT];omega) g5 ?_;intro v1 w1 g4 e1 e2 e3 e4 g6);go_roundw
   case rel =>
    refine⟨j+1,q/2,by omega,by omega,by go_num,rfl,Hd ?_,?_,by omega,EM g3.o g2.o e1 e2 e3 e4 g6 g5⟩
    . rw[WZ,<- XL,HQ.o]
    ·rw[Ln];have e5:AL (AP i j++[bitB i j])=AL (AP i j)++[.bool (bitB i j)]:=by simp[AL]
     unfold OwnB;rw[e5,<- HB.o];exact g4
   case measure=>simp[intOf];omega
  ·have he:j=n:=by omega
   subst he;have g2:=Hd g0;have g3:=Hd g1;clear g0 g1;go_wp2_with fail;refine(HH.o _).mono ?_;rintro x w2 ⟨rfl,rfl⟩;go_wp2_with fail;go_ret;exact⟨_,rfl,g2.o,g3.o⟩
end
section
variable {o:Own}
theorem UG (h:SatE K n Od room w0 mb fs nx w o m V)(hn:n<=16){k:Int}(hk:(k,F)∈fs)(hbs:B6 w v bs) :
 Cl 72 #[Pt mb,Iv k,v] w fun x w'=>∃ b,x=.returned (.bool b)/\(b=true↔bs=tabB n F)/\Bw w w':=by
 have HV:=Hd h.vars_any;have HC:=Hd (QT false n hn w);have gl:Hq (∀ W,Bw w W->∀ u cs,B6 W u cs->Cl 125 #[Pt mb,Iv k,u] W (Bl (.tuple #[.bool (F (AF cs)),Iv 0]) W)) :=
  Hd fun W hb u cs hu=>(h.below hb).eval hk hu
 have gk:Hq (∀ i,i<=1048576->∀ W,Cl 126 #[.int .u64 (i:Nat),Iv n] W fun x w'=>∃ v,x=.returned v/\OwnB w' W.heap.size v (AP i n)/\Bw W w'):=Hd fun i hi W=>UF i n hi hn W
 obtain⟨a,c,rfl,gd,gh⟩:=hbs;have gm:=Hd gd;have gp:=gd.len;have hp:=Ee (show n<=20 by omega);obtain⟨L,hL⟩:=Ex (2^n);have HL:=Hd hL;rw[<- hL] at hp HC;clear h hL gd gh
 go_enter func72,ntmps72
 go_wp2_with fail;refine HV.o.mono ?_;rintro x w' ⟨rfl,rfl⟩;go_wp2_with fail;refine HC.o.mono ?_;rintro x w1 ⟨g,rfl,_,g5⟩
 by_cases g1:bs.length=L
 ·have gi:((bs.length:Int) != (L:Int))=false:=by rw[g1];simp
  have gf:=Hd g5;clear g5 HC HV;go_wp2_with fail
  go_loopw [8,21] (fun s8 s21 wr=>∃ j:Nat,j<=L/\s21=Iv j/\Bw w wr/\Hq (∀ q,q<j->bs.getD q false=F (AF (AP q n)))) (fun _ s21 _=>L-(intOf s21).toNat)
  case atStart=>exact⟨0,VC _,rfl,gf.o,Hd fun q hq=>by omega⟩
  case round =>
   obtain⟨j,hj,rfl,g2,HQ⟩:=hrel
   by_cases gj:j<L
   ·have g0:=Hd g2;clear g2;have go:=QW j (by omega);have gn:(j:Int)<bs.length:=by omega
    obtain⟨b1,of1,rfl,c1⟩:=(gm.o.below g0.o).cells j (by omega);go_wp2_with fail;refine(gk.o j (by omega) _).mono ?_;rintro x w3 ⟨u,rfl,g9,gc⟩;have ge:=Hd gc;have c3:=Cq gc c1;have HU:=Hd (g9.boolsIs (by rw[FT];omega));clear g9 gc c1;go_wp2_with fail;refine(gl.o _ (g0.o.trans (ge.o.mono g0.o.size)) _ _ HU.o).mono ?_;rintro x w4 ⟨rfl,ga⟩;have c4:=Cq ga c3;have g7:=Hd (g0.o.trans ((ge.o.trans (ga.mono ge.o.size)).mono g0.o.size));clear ga c3;obtain⟨y1,g4⟩:∃ y,y=bs.getD j false:=⟨_,rfl⟩;obtain⟨y2,g3⟩:∃ y,y=F (AF (AP j n)):=⟨_,rfl⟩;rw[<- g4] at c4;rw[<- g3];have gg:Hq (y2=y1->∀ q,q<j+1->bs.getD q false=F (AF (AP q n))):=Hd fun g8 q hq=>by
     rcases VE q j with h|h
     . exact HQ.o q h
     ·obtain rfl:q=j:=by omega
      rw[<- g4,<- g3,g8]
    have g6:Hq (y2≠y1->bs≠tabB n F):=Hd fun g8 e=>g8 (by rw[g4,g3,e,EN (by rw[<- HL.o];exact gj)])
    clear g4 g3;cases y1<;>cases y2
    ·go_wp2_with fail;go_roundw
     case rel=>exact⟨j+1,by omega,by go_num,g7.o,Hd (gg.o (by simp))⟩
     case measure=>simp[intOf];omega
    . go_wp2_with fail;go_ret;exact⟨false,rfl,by simpa using g6.o (by simp),g7.o⟩
    . go_wp2_with fail;go_ret;exact⟨false,rfl,by simpa using g6.o (by simp),g7.o⟩
    ·go_wp2_with fail;go_roundw
     case rel=>exact⟨j+1,by omega,by go_num,g7.o,Hd (gg.o (by simp))⟩
     case measure=>simp[intOf];omega
   ·have he:j=L:=by omega
    have g0:=Hd g2;have HE:Hq (bs=tabB n F):=Hd (Ll (by rw[g1,HL.o]) (fun i hi=>HQ.o i (by rw[he,HL.o];exact hi)));clear g2;go_wp2_with fail;go_ret;exact⟨true,rfl,by simpa using HE.o,g0.o⟩
 ·have gi:((bs.length:Int) != (L:Int))=true:=by simp;omega
  have gf:=Hd g5;have g6:Hq (bs≠tabB n F):=Hd fun e=>g1 (by rw[e,CA,HL.o])
  clear g5 HC HV g1;go_wp2_with fail;go_ret;exact⟨false,rfl,by simpa using g6.o,gf.o⟩
end
section
variable {o:Own}
theorem UH (h:SatE K n Od room w0 mb fs nx w o m V)(hn:n<=16){P:Nat->Prop}(hr:LawR P n fs w vl vx hs) :
 Cl 28 #[Pt mb,vl,vx] w (Bl (.bool true) w):=by
 obtain⟨al,cl,rfl,hl⟩:=hr.l;obtain⟨ax,cx,rfl,hx⟩:=hr.x;have HL:=Hd hl;have HX:=Hd hx;have ga:=hr.small;have g8:Hq (∀ W,Bw w W->∀ j v,∀ hj:j<hs.length,B6 W v (tabB n hs[j].2)->Cl 72 #[Pt mb,Iv hs[j].1,v] W (Bl (.bool true) W)):=by
  refine Hd fun W hb j v hj hv=>(UG (h.below hb) hn (hr.sub _ (VG hj)) hv).mono ?_
  rintro x w' ⟨b,rfl,g6,g5⟩;rw[g6.2 rfl];exact⟨rfl,g5⟩
 clear h hr hl hx
 go_enter func28,ntmps28
 go_wp2_with fail
 go_loopw [7,10] (fun s7 s10 wr=>∃ j:Nat,j<=hs.length/\s10=Iv j/\Bw w wr) (fun _ s10 _=>hs.length-(intOf s10).toNat)
 case atStart=>exact⟨0,VC _,rfl,VI _ _⟩
 case round =>
  obtain⟨j,hj,rfl,g1⟩:=hrel
  by_cases g2:j<hs.length
  ·obtain⟨b1,of1,rfl,c1⟩:=(HL.o.below g1).cells j (by simpa using g2);obtain⟨b2,of2,v2,rfl,c2,g3,_⟩:=(HX.o.below g1).cells j (by simpa using g2);have e1:at0 (hs.map Prod.fst) j=hs[j].1:=by rw[As (by simpa using g2)];simp
   have e2:(hs.map fun p=>tabB n p.2).getD j []=tabB n hs[j].2:=by simp[List.getD,g2]
   rw[e1] at c1;rw[e2] at g3;have g7:=Hd g3;have g0:=Hd g1;obtain⟨k1,g4⟩:=Ex (hs[j].1);have HI:Hq (∀ W,Bw w W->∀ v,B6 W v (tabB n hs[j].2)->Cl 72 #[Pt mb,Iv k1,v] W (Bl (.bool true) W)):=by
    rw[g4];exact Hd fun W hb v hv=>g8.o W hb j v g2 hv
   rw[<- g4] at c1;clear g3 g1 e1 e2 g4;have gc:(j:Int)<(hs.length:Int):=by omega
   go_upto_region 4 with fail;refine AJ (fun W:Wd=>W.cell? (Aw b1 (of1+j))=some (Iv k1)/\W.cell? (Aw b2 (of2+j))=some v2/\Hq (Bw w W)) false 11 [(0,false),(1,false),(2,false),(3,false),(4,false),(5,false),(6,false),(7,false),(8,false),(9,true),(10,false)] (by kernel_rfl) (by kernel_rfl) ⟨c1,c2,Hd (g0.o.trans ((Am wr 1).mono g0.o.size))⟩ ?_;simp only[planned,AH]
   iterate 9
    refine Aq rfl ?_;apply Exists.intro;refine⟨fun w' hw=>?_,?_⟩
    . obtain⟨h1,h2,_⟩:=hw;go_simp;rfl
    simp only[Ab]
   refine JW (v:=.bool true) rfl (by go_simp) ((HI.o wr.drew (g0.o.trans ((Am wr 1).mono g0.o.size)) v2 (g7.o.below (Am wr 1))).mono ?_) ?_
   . rintro x w' ⟨rfl,hb⟩;exact⟨rfl,(hb.cell (p:=(Aw b1 (of1+j))) (Af (w:=wr.drew) c1)).trans c1,(hb.cell (p:=(Aw b2 (of2+j))) (Af (w:=wr.drew) c2)).trans c2,Hd (g0.o.trans (((Am wr 1).trans (hb.mono (Am wr 1).size)).mono g0.o.size))⟩
   rintro w' ⟨_,_,g9⟩;simp only[Ab]
   iterate 1
    refine Aq rfl ?_;apply Exists.intro;refine⟨fun w' hw=>?_,?_⟩
    . obtain⟨h1,h2,_⟩:=hw;go_simp;rfl
    simp only[Ab]
   refine Bs ?_;clear g0 c1 c2;go_wp2_with fail;go_roundw
   case rel=>exact⟨j+1,by omega,by go_num,g9.o⟩
   case measure=>simp[intOf];omega
  . have g0:=Hd g1;clear g1;go_wp2_with fail;go_ret;exact⟨rfl,g0.o⟩
end
end Go.Proofs.YtkidaindpahefaaGreat
