/- Several texts in one file: contracts of the program's functions and what follows from them. -/
import Derived.Test.YtkidaindpahefaaGreatD7
import Derived.Test.YtkidaindpahefaaGreatD0
import Derived.Deep.WholeRow
import Derived.Shelf.Spec.SlicesInsert
import Derived.Ground.Names2Prog
import Derived.Test.YtkidaindpahefaaGreatProg
import Derived.Maps.OwnIn
set_option linter.unusedSimpArgs false
set_option linter.unusedVariables false
set_option linter.unusedSectionVars false
set_option linter.unnecessarySimpa false
set_option maxRecDepth 100000
set_option maxHeartbeats 8000000
namespace Go.Proofs.YtkidaindpahefaaGreat
open Go.Proofs.Tryz
open Go.RowKit
section
variable {n:Nat}{os:List Nat}{Gs:List BF}{F:BF}{w W:World}{u x:Value}
theorem Zrv {i:Nat}(hi:i<Gs.length):nodesF n os (Gs.take (i+1))=belF n os n (nodesF n os (Gs.take i)) Gs[i]:=by
 unfold nodesF;rw[List.take_succ_eq_append_getElem hi,List.foldl_append];rfl
theorem Zmt:∀ i,i<=Gs.length->(nodesF n os (Gs.take i)).length<=i*2^n
 | 0,_=>by simp[nodesF]
 | i+1,hi=>by
   have h1:=Zmt i (by omega);rw[Zrv (by omega)];have h2:=Znf n os n (nodesF n os (Gs.take i)) (Gs[i]'(by omega));rw[Nat.succ_mul];omega
end
open Go.RowKit
noncomputable def szO (n:Nat)(Fs:List BF)(zs:List Int):Nat:=(nodesF n (zs.map Int.toNat) Fs).length
theorem Ybx (n:Nat)(Fs:List BF)(zs:List Int):szO n Fs zs<=Fs.length*2^n:=by
 have h:=Zmt (n:=n) (os:=zs.map Int.toNat) (Gs:=Fs) Fs.length (Nat.le_refl _);rw[List.take_length] at h;exact h
theorem Zrx (l:List Nat):(l.map Int.ofNat).map Int.toNat=l:=by
 rw[List.map_map];exact(List.map_congr_left fun z _=>rfl).trans (List.map_id _)
def ArgB (w0:World)(a:Option Addr)(ks:List Int):World->Own->Prop:=fun W o=>ArgI w0 W o a ks
theorem ArgB.keep {w0:World}{a:Option Addr}{ks:List Int}:Zbo (ArgB w0 a ks):=fun W o W' o' h hc =>
 ⟨⟨h.z.len,fun j hj=>by
  obtain⟨b,off,e,hcl⟩:=h.z.cells j hj;have:=h.own _ e;exact⟨b,off,e,(World.cell?_of_block (w:=W) (a:=⟨b,off+j,none⟩) (hc.block b this.1 this.2.2 (fun e=>e))).trans hcl⟩⟩,fun x hx=>⟨Nat.lt_of_lt_of_le (h.own x hx).1 hc.size,(h.own x hx).2.1,hc.none' (h.own x hx).1 (h.own x hx).2.2⟩⟩
section
variable {K:Law}{n room:Nat}{w0 w W W' w' wb:World}{mb:Nat}{fs r:List (Int×BF)}{nx:Int}{o0:Own}{ws0:List Ev}{C:Nat->Prop}{B:World->Own->Prop}{P P':List Nat->Prop}
theorem FxO.size (hB:Zbo B){zs:List Int}(h:FxO K n room w0 mb ws0 C o0 wb B (fun l=>l.map Int.ofNat=zs) fs nx W){c:Nat}{a:Option Addr}{ks:List Int}{Fs:List BF}(hl:∀ W o,B W o->ArgI w0 W o a ks)(hlen:Fs.length=ks.length)(hm:∀ i (h:i<ks.length),(ks[i],Fs[i]'(by omega))∈fs) :
 Calls prog 65 #[.pointer (some ⟨mb,0,none⟩),.slice a ks.length c] W fun x w'=>x=.returned (.tuple #[.int .i64 (szO n Fs zs:Nat),.int .i64 0])/\FxO K n room w0 mb ws0 C o0 wb B (fun l=>l.map Int.ofNat=zs) fs nx w':=by
 obtain⟨o,m,V,h1,h2,h3,h4⟩:=h;refine(Zqt (c:=c) h3 (hl _ _ h4) hlen hm).mono ?_;rintro x w' ⟨rfl,o',m',V',q1,q2,q3,q4⟩;refine⟨?_,o',m',V',h1.trans q1 NoB.sub,by rw[q2];exact h2,q4,hB _ _ _ _ h4 q1⟩;have e:zs.map Int.toNat=m.d.vars:=by rw[<- h3.od,Zrx]
 unfold szO;rw[e]
theorem FxO.wrC {D:Nat->Prop}{B':World->Own->Prop}(h:FxO K n room w0 mb ws0 C o0 wb B P fs nx W)(hw:Wr D W W')(hDC:∀ k,D k->C k\/wb.heap.size<=k)(hs0:∀ k,D k->w0.heap.size<=k)(hno:∀ o,B W o->∀ k,D k->o k=none)(hB:∀ o,Zah o W->B W o->B' W' o):FxO K n room w0 mb ws0 C o0 wb B' P fs nx W':=by
 obtain⟨o,m,V,h1,h2,h3,h4⟩:=h;exact⟨o,m,V,h1.trans (ChgX.of_wr (C:=D) hw o (fun _ _ q=>q)) (fun k hk q=>(hDC k q).resolve_right (by omega)),h2,h3.other hw (fun k _ q=>⟨hs0 k q,hno o h4 k q⟩),hB o h3.lt h4⟩
theorem FxO.sizes (h:FxO K n room w0 mb ws0 C o0 wb B P fs nx W):wb.heap.size<=W.heap.size/\w0.heap.size<=W.heap.size:=by
 obtain⟨o,m,V,h1,_,h3,_⟩:=h;exact⟨h1.size,h3.chg.size⟩
end
open Go.RowKit
theorem Zl9 {v:Value}{zs:List Int}{w:World}(h:SliceIs w v zs)(hlen:zs.length<1000000) :
 Calls prog 96 #[v] w fun e w'=>∃ v',e=.returned v'/\OwnI w' w.heap.size v' zs/\Below w.heap.size w w':=by
 obtain⟨a,c,rfl,hz,hn⟩:=h;have HZ:=Hd hz;have q22:∀ (w:World) (a:Option Addr) (n c:Nat),(binOp .eql 22 (.slice a n c) (.slice none 0 0)).run prog w=.ok (.bool a.isNone) w:=fun w a n c=>Lib.run_eql_slice_nil w _ _ a n c 0 0 rfl
 cases a with
 | none =>
   have g2:zs=[]:=by
    cases zs with
    | nil=>rfl
    | cons x r=>obtain⟨b,off,e,_⟩:=hz.cells 0 (by simp);cases e
   subst g2;obtain rfl:=hn rfl;clear hz hn HZ
   go_enter func96,ntmps96
   go_wp2_with fail;go_ret;exact⟨_,rfl,Zig _ _,Below.refl _ _⟩
 | some p =>
   clear hz
   go_enter func96,ntmps96
   go_wp2_with (at_builtin;refine Zeg rfl _ _ rfl w.heap.size w _ [] zs (some p) c rfl rfl (Zif w w.heap.size (Nat.le_refl _)) (HZ.out.below (Zae _ _)) (by simp;omega) (by simp) (Zae _ _) (fun e=>by cases e) ?_;intro v1 w1 g0 g1 g3 g4);go_ret;exact⟨_,rfl,by simpa using g0,g1⟩
open Go.RowKit
theorem Zym:(prog.info? 3).map (fun i=>i.size)=some 1:=by kernel_rfl
theorem Zrg (args:Array Value)(w:World):(callFunc 99 args).run prog w=.ok (.enter 99 args) w:=enters_of func99 (by kernel_rfl) rfl args w
def winZ (zs vs:List Int)(lv:Nat)(p:List Int):List Int:=zs.take lv++p.map (fun x=>at0 vs x.toNat)++zs.drop (lv+p.length)
theorem Zsd {zs vs p:List Int}{lv:Nat}(h:lv+p.length<=zs.length):(winZ zs vs lv p).length=zs.length:=by
 simp[winZ];omega
theorem Zy7 {zs vs:List Int}{lv:Nat}:winZ zs vs lv []=zs:=by simp[winZ]
theorem Ya9 {zs vs p:List Int}{lv i:Nat}(hi:i<p.length)(h:lv+p.length<=zs.length):(winZ zs vs lv (p.take i)).set (lv+i) (at0 vs (at0 p i).toNat)=winZ zs vs lv (p.take (i+1)):=by
 unfold winZ;have l1:(p.take i).length=i:=by simp;omega
 have l2:(p.take (i+1)).length=i+1:=by simp;omega
 have lA:(zs.take lv++(p.take i).map fun x=>at0 vs x.toNat).length=lv+i:=by simp;omega
 rw[l1,l2,List.set_append_right _ _ (by omega),lA,Nat.sub_self,List.take_succ_eq_append_getElem hi,List.map_append,<- List.append_assoc,List.append_assoc (zs.take lv++_)];congr 1;rw[List.drop_eq_getElem_cons (show lv+i<zs.length by omega),Zax hi];rfl
structure W22C where
 bn:Nat
 bw:Nat
 bv:Nat
 br:Nat
 bl:Nat
def W22C.caps (c:W22C):Array Value:=#[.pointer (some ⟨c.bn,0,none⟩),.pointer (some ⟨c.bw,0,none⟩),.pointer (some ⟨c.bv,0,none⟩),.pointer (some ⟨c.br,0,none⟩),.pointer (some ⟨c.bl,0,none⟩)]
structure W22S (c:W22C)(zs vs:List Int)(lv wd:Nat)(L:List (List Int))(W:World):Prop where
 now:∃ v,W.cell? ⟨c.bn,0,none⟩=some v/\SliceIs W v zs
 wide:W.cell? ⟨c.bw,0,none⟩=some (.int .i64 (wd:Nat))
 vars:∃ v,W.cell? ⟨c.bv,0,none⟩=some v/\SliceIs W v vs
 rows:∀ i,i<96->W.cell? ⟨c.br,i,none⟩=some (.int .i64 (rowV L i))
 lev:W.cell? ⟨c.bl,0,none⟩=some (.int .i64 (lv:Nat))
theorem W22S.below {c:W22C}{zs vs:List Int}{lv wd:Nat}{L:List (List Int)}{W W':World}(h:W22S c zs vs lv wd L W)(hb:Below W.heap.size W W'):W22S c zs vs lv wd L W':=by
 obtain⟨v,h1,h2⟩:=h.now;obtain⟨u,h3,h4⟩:=h.vars;exact⟨⟨v,(hb.cell (Zab h1)).trans h1,h2.below hb⟩,(hb.cell (Zab h.wide)).trans h.wide,⟨u,(hb.cell (Zab h3)).trans h3,h4.below hb⟩,fun i hi=>(hb.cell (Zab (h.rows i hi))).trans (h.rows i hi),(hb.cell (Zab h.lev)).trans h.lev⟩
theorem Zzc {c:W22C}{zs vs p:List Int}{lv wd k:Nat}{L:List (List Int)}{W:World}(h:W22S c zs vs lv wd L W)(hk:k<24)(hp:L.getD k []=p)(hpl:p.length=wd)(hw4:wd<=4)(hw1:1<=wd)(hpm:∀ x∈p,0<=x/\x<(wd:Int))(hvl:vs.length=wd)(hz:lv+wd<=zs.length)(hzs:zs.length<=64) :
 Calls prog 99 (#[.int .i64 (k:Nat)]++c.caps) W fun x w'=>∃ u,x=.returned u/\OwnI w' W.heap.size u (winZ zs vs lv p)/\Below W.heap.size W w':=by
 obtain⟨bn,bw,bv,br,bl⟩:=c;obtain⟨vn,n1,n2⟩:=h.now;have w1:=h.wide;have ge:=Hd (Zl9 n2 (by omega));have gi:Hid (∀ W',Below W.heap.size W W'->∀ i,i<wd->∃ (q:Nat) (b off cv:Nat),q<wd/\W'.cell? ⟨br,k*4+i,none⟩=some (.int .i64 (q:Nat))/\W'.cell? ⟨bv,0,none⟩=some (.slice (some ⟨b,off,none⟩) wd cv)/\W'.cell? ⟨b,off+q,none⟩=some (.int .i64 (at0 vs (at0 p i).toNat))/\W'.cell? ⟨bl,0,none⟩=some (.int .i64 (lv:Nat))/\bv<W.heap.size/\br<W.heap.size/\bl<W.heap.size/\b<W.heap.size):=Hd fun W' hb i hi=>by
  have h':=h.below hb;have hr:=h'.rows (k*4+i) (by omega);have er:rowV L (k*4+i)=at0 p i:=by
   unfold rowV;rw[show (k*4+i)/4=k by omega,show (k*4+i)%4=i by omega,hp]
  rw[er] at hr;have hm:=hpm (at0 p i) (by rw[Zax (show i<p.length by omega)];exact List.getElem_mem _);obtain⟨u,h3,cu,⟨cv,rfl,h5,_⟩⟩:=h'.vars;obtain⟨u0,g5,cu0,⟨cv0,e0,gf,_⟩⟩:=h.vars;have e1:=(hb.cell (Zab g5)).trans g5;rw[h3] at e1;have e2:=Option.some.inj e1;rw[e0] at e2;injection e2 with e2
  subst e2;obtain⟨b,off,e3,h6⟩:=h5.cells (at0 p i).toNat (by omega);obtain⟨b',off',e4,h7⟩:=gf.cells (at0 p i).toNat (by omega);subst e3;cases e4;rw[hvl] at h3;exact⟨(at0 p i).toNat,b,off,cv,by omega,by rw[hr];congr 2;omega,h3,h6,h'.lev,Zab g5,Zab (h.rows 0 (by omega)),Zab h.lev,Zab h7⟩
 have gh:Hid (∀ W',Below W.heap.size W W'->W'.cell? ⟨bw,0,none⟩=some (.int .i64 (wd:Nat))):=Hd fun W' hb=>(h.below hb).wide
 obtain⟨Z,hZ⟩:∃ Z:Nat->List Int,Z=fun i=>winZ zs vs lv (p.take i):=⟨_,rfl⟩
 have g7:Hid (Z 0=zs):=Hd (by rw[hZ];show winZ zs vs lv (p.take 0)=zs;rw[List.take_zero];exact Zy7);have gc:Hid (Z wd=winZ zs vs lv p):=Hd (by rw[hZ];show winZ zs vs lv (p.take wd)=_;rw[<- hpl,List.take_length]);have gg:Hid (∀ i,i<wd->(Z i).set (lv+i) (at0 vs (at0 p i).toNat)=Z (i+1)):=Hd fun i hi=>by rw[hZ];exact Ya9 (by omega) (by omega)
 have g2:Hid (∀ i,i<=wd->(Z i).length=zs.length):=Hd fun i hi=>by rw[hZ];exact Zsd (by simp;omega)
 rw[<- gc.out];obtain⟨N,hN⟩:∃ N,N=zs.length:=⟨_,rfl⟩;rw[<- hN] at g2 hz hzs;have gp:(k:Int)<24:=by omega
 unfold W22C.caps
 show Calls _ _ #[_,_,_,_,_,_] _ _
 dsimp only at n1 w1;clear h n2 hp hpl hpm hvl hZ gc hN
 go_enter func99,ntmps99
 go_wp2_with fail;refine ge.out.mono ?_;rintro x w2 ⟨u,rfl,ho,hb⟩;have ga:0<zs.length:=by have:=g2.out 0 (by omega);rw[g7.out] at this;omega
 obtain⟨g,cap,rfl,hg,_⟩:=ho.shape ga;have g9:zs.length=N:=by have:=g2.out 0 (by omega);rw[g7.out] at this;exact this
 rw[g9] at ho ⊢;have HO:Hid (OwnI w2 W.heap.size (.slice (some ⟨g,0,none⟩) N cap) (Z 0)):=Hd (by rw[g7.out];exact ho);have HB:=Hd hb;have w2c:=gh.out w2 hb;clear ho hb ge n1 w1 ga g9;go_wp2_with fail
 go_loopw [9,13] (fun _ s13 wr=>∃ i:Nat,i<=wd/\s13=.int .i64 (i:Nat)/\Hid (OwnI wr W.heap.size (.slice (some ⟨g,0,none⟩) N cap) (Z i))/\Hid (Below W.heap.size W wr)) (fun _ s13 _=>wd-(intOf s13).toNat)
 case atStart=>exact⟨0,Nat.zero_le _,rfl,HO,HB⟩
 case round =>
  obtain⟨i,hi,rfl,g1,g8⟩:=hrel;clear HO HB w2c
  by_cases g4:i<wd
  ·obtain⟨q,b,off,cv,hq,r1,r2,r3,r4,l1,l2,l3,l4⟩:=gi.out wr g8.out i g4;obtain⟨y,hy⟩:∃ y,y=at0 vs (at0 p i).toNat:=⟨_,rfl⟩;have g6:=gg.out i g4;rw[<- hy] at r3 g6;have gq:(i:Int)<(wd:Int):=by omega
   have gr:(i:Int)<4:=by omega
   have gl:(q:Int)<(wd:Int):=by omega
   have gm:(lv:Int)+(i:Int)<(N:Int):=by omega
   have go:0<=(lv:Int)+(i:Int):=by omega
   have gn:IntKind.i64.wrap ((lv:Int)+(i:Int))=(lv:Int)+(i:Int):=IntWalk.i64_in _ (by omega);have gk:((lv:Int)+(i:Int)).toNat=lv+i:=by omega
   have ca:wr.drew.cell? ⟨g,lv+i,none⟩=some (.int .i64 (at0 (Z i) (lv+i))):=g1.out.cell (lv+i) (by rw[g2.out i hi];omega);have fa:wr.drew.frozen? ⟨g,lv+i,none⟩=false:=g1.out.frozen (lv+i);have g3:=Zdg (P:=prog) Zym ca fa (v:=.int .i64 y) rfl rfl;obtain⟨w6,g0⟩:∃ w,w=wr.drew.setCell ⟨g,lv+i,none⟩ (.int .i64 y):=⟨_,rfl⟩;have gj:Hid (OwnI w6 W.heap.size (.slice (some ⟨g,0,none⟩) N cap) (Z (i+1))):=Hd (by rw[g0,<- g6];exact(g1.out.drewN 1).stored (lv+i) y);have HB2:Hid (Below W.heap.size W w6):=Hd (by rw[g0];exact(Za9 g8.out 1).setCell hg _);have k1:w6.cell? ⟨br,k*4+i,none⟩=some (.int .i64 (q:Nat)):=by rw[g0];exact Zat r1 (.inl (by omega))
   have k2:w6.cell? ⟨bv,0,none⟩=some (.slice (some ⟨b,off,none⟩) wd cv):=by rw[g0];exact Zat r2 (.inl (by omega))
   have k3:w6.cell? ⟨b,off+q,none⟩=some (.int .i64 y):=by rw[g0];exact Zat r3 (.inl (by omega))
   have k4:w6.cell? ⟨bl,0,none⟩=some (.int .i64 (lv:Nat)):=by rw[g0];exact Zat r4 (.inl (by omega))
   have HK:=Hd (And.intro k1 (And.intro k2 (And.intro k3 k4)));rw[<- g0] at g3;have gd:=Hd g3;clear ca fa g3 g0 k1 k2 k3 k4 g6 hy l1 l2 l3 l4 g1;go_upto_region 5 with fail;refine Zj2 [0,1,2,3,4,5,6,7,8,9,10,11,12] (fun W1=>W1.cell? ⟨br,k*4+i,none⟩=some (.int .i64 (q:Nat))/\W1.cell? ⟨bv,0,none⟩=some (.slice (some ⟨b,off,none⟩) wd cv)/\W1.cell? ⟨b,off+q,none⟩=some (.int .i64 y)/\W1.cell? ⟨bl,0,none⟩=some (.int .i64 (lv:Nat))) (fun _ _=>False) (fun _ _ _ _ h=>h.elim) (by kernel_rfl) ⟨r1,r2,r3,r4⟩ ?_
   iterate 13
    refine Ziy rfl rfl (by kernel_rfl) ?_;apply Exists.intro;refine⟨fun w' hw=>?_,?_⟩
    . obtain⟨q1,q2,q3,q4⟩:=hw;go_simp;rfl
    simp only[Zai]
   refine Zsx (pl:=[]) (w':=w6) (i:=13) rfl (by kernel_rfl) rfl rfl (by go_simp<;>exact gd.out) HK.out ?_;simp only[Zai];refine Zsw (by kernel_rfl) ?_;clear gd HK r1 r2 r3 r4;go_wp2_with fail;go_roundw
   case rel=>exact⟨i+1,g4,by go_num,gj,HB2⟩
   case measure=>simp[intOf];omega
  ·obtain rfl:i=wd:=by omega
   go_wp2_with fail;go_ret;exact⟨_,rfl,g1.out,g8.out⟩
open Go.RowKit
def Ze6 (zs:List Int)(m b:Nat):Prop:=b<m/\(∀ j,j<m->at0 zs b<=at0 zs j)/\∀ j,j<b->at0 zs b<at0 zs j
theorem Zro {a:Option Addr}{c:Nat}{zs:List Int}{w:World}(hz:Zav w a zs)(hp:0<zs.length)(hl:zs.length<=1000000) :
 Calls prog 101 #[.slice a zs.length c] w fun x w'=>∃ b:Nat,x=.returned (.int .i64 (b:Nat))/\Ze6 zs zs.length b/\w=w':=by
 obtain⟨L,hL⟩:∃ L,L=zs.length:=⟨_,rfl⟩;have HC:Hid (∀ i,i<L->∃ b off,a=some ⟨b,off,none⟩/\w.cell? ⟨b,off+i,none⟩=some (.int .i64 (at0 zs i))):=Hd fun i hi=>hz.cells i (by omega)
 rw[<- hL] at hp hl ⊢;clear hz hL
 go_enter func101,ntmps101
 go_wp2_with fail
 go_loopw [3,4,5,8] (fun s3 _ _ s8 wr=>∃ i b:Nat,i<=L/\s3=.int .i64 (b:Nat)/\s8=.int .i64 (i:Nat)/\wr=w/\b<L/\Hid (Ze6 zs (max i 1) b)) (fun _ _ _ s8 _=>L-(intOf s8).toNat)
 case atStart=>exact⟨0,0,Nat.zero_le _,rfl,rfl,rfl,hp,Hd ⟨by omega,fun j hj=>by rw[show j=0 by omega];exact Int.le_refl _,fun j hj=>by omega⟩⟩
 case round =>
  obtain⟨i,b,hi,rfl,rfl,rfl,hb,HF⟩:=hrel
  by_cases g0:i<L
  ·obtain⟨bk,off,rfl,c1⟩:=HC.out i g0;obtain⟨bk2,off2,e,c2⟩:=HC.out b hb;injection e with e
   injection e with e1 e2
   subst e1 e2;have g1:(i:Int)<(L:Int):=by omega
   have g2:(b:Int)<(L:Int):=by omega
   obtain⟨x,hx⟩:∃ x,x=at0 zs i:=⟨_,rfl⟩;obtain⟨y,hy⟩:∃ y,y=at0 zs b:=⟨_,rfl⟩;rw[<- hx] at c1;rw[<- hy] at c2;have HX:=Hd hx;have HY:=Hd hy;clear hx hy
   by_cases h:x<y
   ·have HN:Hid (Ze6 zs (max (i+1) 1) i):=Hd ⟨by omega,fun j hj=>by
     rw[<- HX.out]
     by_cases e:j=i
     . rw[e,<- HX.out];exact Int.le_refl _
     . have:=HF.out.2.1 j (by omega);rw[<- HY.out] at this;omega,fun j hj=>by
     have:=HF.out.2.1 j (by omega);rw[<- HY.out] at this;rw[<- HX.out];omega⟩
    clear HF;go_wp2_with fail;go_roundw
    case rel=>exact⟨i+1,i,g0,rfl,by go_num,(by first|rfl|trivial),g0,HN⟩
    case measure=>simp[intOf];omega
   ·have HN:Hid (Ze6 zs (max (i+1) 1) b):=Hd ⟨by have:=HF.out.1;omega,fun j hj=>by
     by_cases e:j=i
     . rw[e,<- HX.out,<- HY.out];omega
     . exact HF.out.2.1 j (by omega),HF.out.2.2⟩
    clear HF;go_wp2_with fail;go_roundw
    case rel=>exact⟨i+1,b,g0,rfl,by go_num,(by first|rfl|trivial),hb,HN⟩
    case measure=>simp[intOf];omega
  ·obtain rfl:i=L:=by omega
   have HN:Hid (Ze6 zs i b):=Hd (by have:=HF.out;rwa [Nat.max_eq_left hp] at this);clear HF;go_wp2_with fail;go_ret;exact⟨b,rfl,HN.out,rfl⟩
open Go.RowKit
section
variable {gs:List (List Int)}{n:Nat}{lev:Int->Nat}{pl:List Nat}
theorem Zx9 {zs:List Int}(h:Zay zs=true)(hl:zs.length=n){x:Int}(hx:0<=x/\x<(n:Int)):x∈zs:=by
 obtain⟨k,hk,e⟩:=Zg4 h (x:=x.toNat) (by omega);rw[Zax hk] at e;have:zs[k]=x:=by rw[e];omega
 rw[<- this];exact List.getElem_mem _
end
open Go.RowKit
theorem Zur {zs:List Int}{f t:Nat}(hf:f<zs.length)(ht:t<zs.length):(Ze2 zs (f:Int) (t:Int)).Perm zs:=by
 rw[<- Zky hf ht];have h1:zs.take f++at0 zs f::zs.drop (f+1)=zs:=by
  rw[Zax hf,<- List.drop_eq_getElem_cons hf,List.take_append_drop]
 obtain⟨m,hm⟩:∃ m,m=zs.take f++zs.drop (f+1):=⟨_,rfl⟩;obtain⟨x,hx⟩:∃ x,x=at0 zs f:=⟨_,rfl⟩;rw[<- hm,<- hx];rw[<- hx] at h1;have h2:(m.take t++[x]++m.drop t).Perm (x::m):=by
  have e:m.take t++[x]++m.drop t=m.take t++x::m.drop t:=by rw[List.append_assoc];rfl
  rw[e];refine List.perm_middle.trans ?_;rw[List.take_append_drop]
 refine h2.trans ?_;rw[hm];refine(List.perm_middle (l₁:=zs.take f) (l₂:=zs.drop (f+1)) (a:=x)).symm.trans ?_;rw[h1]
open Go.RowKit
end Go.Proofs.YtkidaindpahefaaGreat

namespace Go.Proofs.YtkidaindpahefaaGreat
open Go.Proofs.Tryz
open Go.RowKit
open Go.RowKit
def BxN (b:Nat)(v:Value)(t:TypeId)(W:World)(o:Own):Prop:=W.heap[b]?=some (.cells #[v] t (0,0))/\o b=none
section
variable {b b':Nat}{v u:Value}{t t':TypeId}{W W':World}{o:Own}
theorem BxN.keep:Zbo (BxN b v t):=fun W o W' o' h hc=>by
 have hl:=(Array.getElem?_eq_some_iff.1 h.1).1;exact⟨(hc.block b hl h.2 (fun e=>e)).trans h.1,hc.none' hl h.2⟩
theorem BxN.cell (h:BxN b v t W o):W.cell? ⟨b,0,none⟩=some v:=cell1 h.1
end
open Go.RowKit
open Go.RowKit
def BfB (o:Own)(W:World):World->Own->Prop:=fun W' o'=>ChgX NoB o o' W W'
theorem BfB.keep {o:Own}{W:World}:Zbo (BfB o W):=fun _ _ _ _ h hc=>h.trans hc NoB.sub
theorem BfB.wr {o o':Own}{W W1 W2:World}{D:Nat->Prop}(h:BfB o W W1 o')(hw:Wr D W1 W2)(hD:∀ k,D k->W.heap.size<=k):BfB o W W2 o' :=
 h.trans (ChgX.of_wr (C:=D) hw o' (fun _ _ q=>q)) fun k hk q=>by have:=hD k q;omega
section
variable {K:Law}{n room:Nat}{w0 w W w' wb:World}{mb:Nat}{fs r:List (Int×BF)}{nx:Int}{o0:Own}{ws0:List Ev}{C:Nat->Prop}{B:World->Own->Prop}{P:List Nat->Prop}
theorem FxO.box (hB:Zbo B)(h:FxO K n room w0 mb ws0 C o0 wb B P fs nx W)(v:Value)(t:TypeId):FxO K n room w0 mb ws0 C o0 wb (fun W' o=>B W' o/\BxN W.heap.size v t W' o) P fs nx (W.alloc (.cells #[v] t)):=by
 obtain⟨o,m,V,h1,h2,h3,h4⟩:=h;have hb:=Zae W (.cells #[v] t);have hc:=ChgX.of_below hb o NoB;exact⟨o,m,V,h1.trans hc NoB.sub,h2,h3.below hb,hB _ _ _ _ h4 hc,heap_alloc_new _ _,h3.lt.none (Nat.le_refl _)⟩
end
open Go.RowKit
def Yde (n:Nat)(l:List BF)(F:BF):Bool:=tabB n F == tabB n (fun _=>false)||tabB n F == tabB n (fun _=>true)||l.any fun G=>tabB n G == tabB n F||tabB n G == tabB n (notF F)
def belC (n:Nat)(os:List Nat):Nat->List BF->BF->List BF
 | 0,l,_=>l
 | k+1,l,F=>if Yde n l F then l else belC n os k (belC n os k (l++[F]) (cofF F (topR n F os).toNat false)) (cofF F (topR n F os).toNat true)
theorem Zxu {n:Nat}{F:BF}(h:DepF n F):DepF n (notF F):=fun ρ ρ' e=>by
 show (!F ρ) = !F ρ'
 rw[h ρ ρ' e]
theorem Zej {n:Nat}{F G:BF}(hF:DepF n F)(hG:DepF n G):tabB n F=tabB n G↔F=G:=⟨Zyw hF hG,fun e=>by rw[e]⟩
theorem Zyq {n:Nat}{l:List BF}{F:BF}(hl:∀ G∈l,DepF n G)(h:DepF n F):Yde n l F=true↔(∃ c,F=fun _=>c)\/Zkh l F:=by
 have hc:∀ b:Bool,DepF n fun _=>b:=fun b _ _ _=>rfl
 unfold Yde Zkh;rw[Bool.or_eq_true,Bool.or_eq_true,List.any_eq_true,beq_iff_eq,beq_iff_eq,Zej h (hc _),Zej h (hc _)];refine or_congr ⟨fun h=>h.elim (fun e=>⟨false,e⟩) fun e=>⟨true,e⟩,fun⟨c,e⟩=>by cases c;exact .inl e;exact .inr e⟩ ?_;constructor
 . rintro⟨G,hG,e⟩;rw[Bool.or_eq_true,beq_iff_eq,beq_iff_eq,Zej (hl G hG) h,Zej (hl G hG) (Zxu h)] at e;obtain⟨i,hi,rfl⟩:=List.getElem_of_mem hG;exact⟨i,hi,e⟩
 . rintro⟨i,hi,e⟩;refine⟨l[i],List.getElem_mem hi,?_⟩;rw[Bool.or_eq_true,beq_iff_eq,beq_iff_eq,Zej (hl _ (List.getElem_mem hi)) h,Zej (hl _ (List.getElem_mem hi)) (Zxu h)];exact e
theorem Zq7 (n:Nat)(os:List Nat):∀ (k:Nat) (l:List BF) (F:BF),(∀ G∈l,DepF n G)->DepF n F->belC n os k l F=belF n os k l F
 | 0,l,F,_,_=>rfl
 | k+1,l,F,hl,h=>by
   have hs:=Zyq hl h;have hl2:∀ G∈l++[F],DepF n G:=fun G hG=>by
    rcases List.mem_append.1 hG with h1|h1
    . exact hl G h1
    . rw[List.mem_singleton.1 h1];exact h
   unfold belC belF
   by_cases hc:(∃ c,F=fun _=>c)\/Zkh l F
   . rw[if_pos (hs.2 hc),if_pos hc]
   . rw[if_neg (fun e=>hc (hs.1 e)),if_neg hc,Zq7 n os k (l++[F]) _ hl2 (Zfm h _ _),Zq7 n os k _ _ (Zne n os k _ _ hl2 (Zfm h _ _)) (Zfm h _ _)]
def szC (n:Nat)(F:BF)(zs:List Int):Nat:=(belC n (zs.map Int.toNat) n [] F).length
theorem Ybw {n:Nat}{F:BF}(h:DepF n F):szO n [F]=szC n F:=by
 funext zs;unfold szC;rw[Zq7 n _ n [] F (fun G hG=>by cases hG) h];rfl
open Go.RowKit
end Go.Proofs.YtkidaindpahefaaGreat

namespace Go.Proofs.YtkidaindpahefaaGreat
open Go.Proofs.Tryz
open Go.RowKit
section
variable {K:Law}{n room:Nat}{w0 w W W' w' wb:World}{mb:Nat}{fs r:List (Int×BF)}{nx:Int}{o0:Own}{ws0:List Ev}{C:Nat->Prop}{B:World->Own->Prop}
theorem FxS.var (hK:Zc8 K)(hB:Zbo B)(h:FxS K n room w0 mb ws0 C o0 wb B fs nx W)(hn:nx<=549755813888)(hr:(fs.length+1)*2^n<=room){v:Nat}(hv:v<n) :
 Calls prog 93 #[.pointer (some ⟨mb,0,none⟩),.int .i64 v] W fun x w'=>x=.returned (.tuple #[.int .i64 nx,.int .i64 0])/\FxS K n room w0 mb ws0 C o0 wb B (fs++[(nx,varF v)]) (nx+1) w' :=
 h.new hB fun o m V hw hs=>(Yea hK hs hw hn hr hv).mono fun x w' ⟨e,o',m',V',q1,q2,q3⟩=>⟨e,o',m',V',q1,q2,q3⟩
def BxA (b:Nat)(cs:Array Value)(t:TypeId)(W:World)(o:Own):Prop:=W.heap[b]?=some (.cells cs t (0,0))/\o b=none
theorem BxA.keep {b:Nat}{cs:Array Value}{t:TypeId}:Zbo (BxA b cs t):=fun W o W' o' h hc=>by
 have hl:=(Array.getElem?_eq_some_iff.1 h.1).1;exact⟨(hc.block b hl h.2 (fun e=>e)).trans h.1,hc.none' hl h.2⟩
end
open Go.RowKit
theorem Zwy (x:Int)(w:World):Calls prog 138 #[.int .i64 x] w fun e w'=>e=.returned (.bool false)/\w=w':=by
 go_enter func138,ntmps138
 go_wp2_with fail;go_ret;refine⟨by simp,rfl⟩
theorem Zz0 (x y:Int)(w:World):Calls prog 210 #[.int .i64 x,.int .i64 y] w fun e w'=>e=.returned (.bool (decide (x<y)))/\w=w':=by
 have H1:=Hd (fun z w=>Zwy z w)
 go_enter func210,ntmps210
 go_wp2_with fail;refine(H1.out x w).mono ?_;rintro e w' ⟨rfl,rfl⟩;go_wp2_with fail;go_ret;exact⟨rfl,rfl⟩
theorem Zm5 (zs:List Int)(i:Int):(Zca zs i).Perm zs:=by
 unfold Zca;split
 ·rename_i h
  rw[Zax (show i.toNat<zs.length by omega),Zax (show i.toNat+1<zs.length by omega)];exact List.set_set_perm (by omega) (by omega)
 . exact List.Perm.refl _
theorem Zmr {P:Program}{ops:Array Oper}{Q:Exit->Act->World->Prop}{S:World->Prop}{last:Bool}{o:Oper}{r:List (Option Oper×Bool)}{a:Act}{w:World}{f:FuncId}{args:Array Value}{R:Value->World->Prop}(hw:Region.wanted o (yielded ops a.tmps)=true)
 (he:(execOp a.eval o).run P w=.ok (.enter f args) w) (hc:Calls P f args w fun e w'=>∃ v,e=.returned v/\S w'/\R v w')
 (h:∀ v w',S w'->R v w'->Zb5 P ops Q S last r (a.put o.dst v) w'):Zb5 P ops Q S last ((some o,true)::r) a w:=by
 unfold Zb5;simp only[hw,if_true,Oper.wp,he,Oper.upon];exact hc.mono fun e w' ⟨v,h1,h2,h3⟩=>by subst h1;exact⟨.inr h2,h v w' h2 h3⟩
def Zbb (i:Nat)(c:List Int):Prop:=∀ p q,p<q->q<i->at0 c p<=at0 c q
theorem Zqo (c:List Int):Zbb 1 c:=fun p q h1 h2=>by omega
def InsR (i j:Nat)(c:List Int):Prop:=(∀ p q,p<q->q<=i->p≠j->q≠j->at0 c p<=at0 c q)/\∀ q,j<q->q<=i->at0 c j<=at0 c q
theorem Zbb.ins {i:Nat}{c:List Int}(h:Zbb i c):InsR i i c:=⟨fun p q h1 h2 _ h4=>h p q h1 (by omega),fun q h1 h2=>by omega⟩
theorem InsR.exit {i j:Nat}{c:List Int}(h:InsR i j c)(hj:j=0\/at0 c (j-1)<=at0 c j):Zbb (i+1) c:=fun p q h1 h2=>by
 by_cases hp:p=j
 . subst hp;exact h.2 q h1 (by omega)
 ·by_cases hq:q=j
  ·subst hq;rcases hj with rfl|hj
   . omega
   ·by_cases hp2:p=q-1
    . subst hp2;exact hj
    ·by_cases hqi:q<=i
     . exact Int.le_trans (h.1 p (q-1) (by omega) (by omega) hp (by omega)) hj
     . omega
  . exact h.1 p q h1 (by omega) hp hq
theorem InsR.step {i k:Nat}{c:List Int}(h:InsR i (k+1) c)(hl:k+1<c.length)(hlt:at0 c (k+1)<at0 c k)(hi:k+1<=i:=by omega):InsR i k (Zca c (k:Int)):=by
 have e:∀ j,at0 (Zca c (k:Int)) j=if j=k then at0 c (k+1) else if j=k+1 then at0 c k else at0 c j:=fun j=>Ze8 hl
 refine⟨fun p q h1 h2 h3 h4=>?_,fun q h1 h2=>?_⟩
 ·rw[e,e,if_neg h3,if_neg h4]
  by_cases hp:p=k+1
  . rw[if_pos hp,if_neg (by omega)];exact h.1 k q (by omega) h2 (by omega) (by omega)
  ·rw[if_neg hp]
   by_cases hq:q=k+1
   . rw[if_pos hq];exact h.1 p k (by omega) (by omega) hp (by omega)
   . rw[if_neg hq];exact h.1 p q h1 h2 hp hq
 ·rw[e,e,if_pos rfl,if_neg (by omega)]
  by_cases hq:q=k+1
  . rw[if_pos hq];omega
  . rw[if_neg hq];exact h.2 q (by omega) h2
theorem Zzs {base g n cap:Nat}{cur:List Int}{W:World}(hown:OwnI W base (.slice (some ⟨g,0,none⟩) n cap) cur)(hl:cur.length=n)(hn:n<=12){gf:Nat}{lop:Array Value}(eg:∀ args w,(callFunc gf args).run prog w=.ok (.enter gf args) w)(hcmp:∀ W1 x y,Wr (· = g) W W1->x∈cur->y∈cur->Calls prog gf (#[.int .i64 x,.int .i64 y]++lop) W1 fun e w'=>∃ z,e=.returned (.int .i64 z)/\Below W1.heap.size W1 w') :
 Calls prog 185 #[.slice (some ⟨g,0,none⟩) n cap,.int .i64 0,.int .i64 (n:Nat),.func (.func gf) #[] lop] W fun e w'=>e=.returned (.tuple #[])/\∃ c2,(c2.Perm cur/\c2.length=n)/\OwnI w' base (.slice (some ⟨g,0,none⟩) n cap) c2/\Wr (· = g) W w':=by
 obtain⟨P,hP⟩:∃ P:Ending->World->Prop,P=fun e w'=>e=.returned (.tuple #[])/\∃ c2,(c2.Perm cur/\c2.length=n)/\OwnI w' base (.slice (some ⟨g,0,none⟩) n cap) c2/\Wr (· = g) W w':=⟨_,rfl⟩
 have gj:Hid (∀ w',(∃ c2,(c2.Perm cur/\c2.length=n)/\OwnI w' base (.slice (some ⟨g,0,none⟩) n cap) c2/\Wr (· = g) W w')->P (.returned (.tuple #[])) w'):=Hd fun w' h=>by rw[hP];exact⟨rfl,h⟩
 have gc:Hid (∀ c1 W1,OwnI W1 base (.slice (some ⟨g,0,none⟩) n cap) c1->∀ k,k+1<c1.length->OwnI ((W1.setCell ⟨g,k+1,none⟩ (.int .i64 (at0 c1 k))).setCell ⟨g,k,none⟩ (.int .i64 (at0 c1 (k+1)))) base (.slice (some ⟨g,0,none⟩) n cap) (Zca c1 (k:Int))):=Hd fun c1 W1 h k hk=>by
  rw[Zj5 hk,<- List.set_comm _ _ (by omega)];exact(h.stored (k+1) _).stored k _
 have H0:=Hd hown;have HL:=Hd hl;have HC:=Hd hcmp;rw[<- hP];clear hP hown hl hcmp
 go_enter func185,ntmps185
 go_wp2_with fail
 go_loopw [8,9] (fun s8 _ wr=>∃ (i:Nat) (c1:List Int),1<=i/\s8=.int .i64 (i:Nat)/\(i<=n\/i=1)/\Hid (OwnI wr base (.slice (some ⟨g,0,none⟩) n cap) c1)/\Hid (c1.Perm cur/\c1.length=n)/\Hid (Wr (· = g) W wr)) (fun s8 _ _=>n-(intOf s8).toNat)
 case atStart=>exact⟨1,cur,Nat.le_refl _,rfl,.inr rfl,H0,Hd ⟨List.Perm.refl _,HL.out⟩,Hd (Wr.refl _ _)⟩
 case round =>
  obtain⟨i,c1,gx,rfl,gw,HO,HP,HW⟩:=hrel;obtain⟨wo,gk⟩:∃ w,w=wr:=⟨_,rfl⟩;subst gk;clear H0
  by_cases gq:i<n
  ·have gm:(i:Int)<(n:Int):=by omega
   go_wp2_with fail
   go_loopw [9] (fun s9 wr=>∃ (j:Nat) (c1:List Int),j<=i/\s9=.int .i64 (j:Nat)/\Hid (OwnI wr base (.slice (some ⟨g,0,none⟩) n cap) c1)/\Hid (c1.Perm cur/\c1.length=n)/\Hid (Wr (· = g) W wr)) (fun s9 _=>(intOf s9).toNat)
   case atStart=>exact⟨i,c1,Nat.le_refl _,rfl,HO,Hd ⟨HP.out.1,HP.out.2⟩,HW⟩
   case round =>
    clear HO HP HW;obtain⟨j,c1,hj,rfl,HO,HP,HW⟩:=hrel;rcases j with _|k
    ·go_upto_region 4 with fail;refine Zan (fun W1:World=>Hid (W1=wr.drew)) false 17 [(0,false),(1,false),(2,false),(3,false),(4,false),(5,false),(6,false),(7,false),(8,false),(9,false),(10,false),(11,false),(12,false),(13,false),(14,true),(15,false),(16,false)] (by kernel_rfl) (by kernel_rfl) (Hd rfl) ?_;simp only[planned,Zdd];refine Zaj rfl ?_;apply Exists.intro;refine⟨fun w' hw=>?_,?_⟩
     . clear hw;go_simp;rfl
     simp only[Zai];refine Zaj rfl ?_;apply Exists.intro;refine⟨fun w' hw=>?_,?_⟩
     . clear hw;go_simp;rfl
     simp only[Zai];refine Zaj rfl ?_;apply Exists.intro;refine⟨fun w' hw=>?_,?_⟩
     . clear hw;go_simp;rfl
     simp only[Zai];refine Zaj rfl ?_;apply Exists.intro;refine⟨fun w' hw=>?_,?_⟩
     . clear hw;go_simp;rfl
     simp only[Zai];refine Zao false (by go_simp) ?_;refine Exists.intro undef (And.intro (fun g0=>absurd g0 (by simp)) ?_);simp only[Zai];refine Zao false (by go_simp) ?_;refine Exists.intro undef (And.intro (fun g0=>absurd g0 (by simp)) ?_);simp only[Zai];refine Zao false (by go_simp) ?_;refine Exists.intro undef (And.intro (fun g0=>absurd g0 (by simp)) ?_);simp only[Zai];refine Zao false (by go_simp) ?_;refine Exists.intro undef (And.intro (fun g0=>absurd g0 (by simp)) ?_);simp only[Zai];refine Zao false (by go_simp) ?_;refine Exists.intro undef (And.intro (fun g0=>absurd g0 (by simp)) ?_);simp only[Zai];refine Zao false (by go_simp) ?_;refine Exists.intro undef (And.intro (fun g0=>absurd g0 (by simp)) ?_);simp only[Zai];refine Zao false (by go_simp) ?_;refine Exists.intro undef (And.intro (fun g0=>absurd g0 (by simp)) ?_);simp only[Zai];refine Zao false (by go_simp) ?_;refine Exists.intro undef (And.intro (fun g0=>absurd g0 (by simp)) ?_);simp only[Zai];refine Zao false (by go_simp) ?_;refine Exists.intro undef (And.intro (fun g0=>absurd g0 (by simp)) ?_);simp only[Zai];refine Zao false (by go_simp) ?_;refine Exists.intro undef (And.intro (fun g0=>absurd g0 (by simp)) ?_);simp only[Zai];refine Zpy (v:=.int .i64 0) (f:=0) (args:=#[]) false (by go_simp) (Hd rfl) (fun h=>by cases h) (fun h=>by cases h) ?_;rintro wN gl;obtain rfl:=gl.out;simp only[Zai];refine Zao false (by go_simp) ?_;refine Exists.intro undef (And.intro (fun g0=>absurd g0 (by simp)) ?_);simp only[Zai];refine Zaj rfl ?_;apply Exists.intro;refine⟨fun w' hw=>?_,?_⟩
     . clear hw;go_simp;rfl
     simp only[Zai];refine Zdm ?_;have g1:=Hd (HO.out.drewN 1);have g3:=Hd HW.out.drew;have HX:=Hd (show c1.Perm cur/\c1.length=n from ⟨HP.out.1,HP.out.2⟩);clear HP;go_wp2_with fail;go_roundw
     case rel=>exact⟨i+1,c1,by omega,by go_num,by omega,g1,HX,g3⟩
     case measure=>simp[intOf];omega
    ·have g7:k+1<c1.length:=by have:=HP.out.2;omega
     have c1c:wr.drew.cell? ⟨g,k+1,none⟩=some (.int .i64 (at0 c1 (k+1))):=HO.out.cell (k+1) g7;have c0c:wr.drew.cell? ⟨g,k,none⟩=some (.int .i64 (at0 c1 k)):=HO.out.cell k (by omega);have g9:=Hd (HO.out.drewN 1);have g2:=Hd HW.out.drew;have HM:Hid (at0 c1 (k+1)∈cur/\at0 c1 k∈cur):=Hd ⟨HP.out.1.mem_iff.1 (by rw[Zax g7];exact List.getElem_mem _),HP.out.1.mem_iff.1 (by rw[Zax (show k<c1.length by omega)];exact List.getElem_mem _)⟩;have gd:∀ w2 q,OwnI w2 base (.slice (some ⟨g,0,none⟩) n cap) c1->w2.frozen? ⟨g,q,none⟩=false:=fun w2 q h=>h.frozen q
     have ga:=Hd gd;have gv:k+1<n:=by have:=HP.out.2;omega
     have gp:(k:Int)+1<(n:Int):=by omega
     have gt:(k:Int)+1-1=(k:Int):=by omega
     have gr:(k:Int)<(n:Int):=by omega
     have go:IntKind.i64.wrap (k:Int)=(k:Int):=IntWalk.i64_in _ ⟨by omega,by omega⟩;have gu:(k:Int)+1>0:=by omega
     have g8:=Hd (fun W1 h=>gc.out c1 W1 h k g7);obtain⟨y1,g4⟩:∃ y,y=at0 c1 (k+1):=⟨_,rfl⟩;obtain⟨y0,g5⟩:∃ y,y=at0 c1 k:=⟨_,rfl⟩;rw[<- g4] at c1c;rw[<- g5] at c0c;rw[<- g4,<- g5] at HM g8;have HY:=Hd (show y1=at0 c1 (k+1)/\y0=at0 c1 k from ⟨g4,g5⟩);clear g4 g5 g7 gd gc;go_upto_region 4 with fail;refine Zan (fun W1:World=>W1.cell? ⟨g,k+1,none⟩=some (.int .i64 y1)/\W1.cell? ⟨g,k,none⟩=some (.int .i64 y0)/\Hid (Wr (· = g) W W1)/\Hid (OwnI W1 base (.slice (some ⟨g,0,none⟩) n cap) c1)) false 17 [(0,false),(1,false),(2,false),(3,false),(4,false),(5,false),(6,false),(7,false),(8,false),(9,false),(10,false),(11,false),(12,false),(13,false),(14,true),(15,false),(16,false)] (by kernel_rfl) (by kernel_rfl) ⟨c1c,c0c,g2,g9⟩ ?_;simp only[planned,Zdd];refine Zaj rfl ?_;apply Exists.intro;refine⟨fun w' hw=>?_,?_⟩
     . obtain⟨q1,q2,-,-⟩:=hw;go_simp;rfl
     simp only[Zai];refine Zaj rfl ?_;apply Exists.intro;refine⟨fun w' hw=>?_,?_⟩
     . obtain⟨q1,q2,-,-⟩:=hw;go_simp;rfl
     simp only[Zai];refine Zaj rfl ?_;apply Exists.intro;refine⟨fun w' hw=>?_,?_⟩
     . obtain⟨q1,q2,-,-⟩:=hw;go_simp;rfl
     simp only[Zai];refine Zaj rfl ?_;apply Exists.intro;refine⟨fun w' hw=>?_,?_⟩
     . obtain⟨q1,q2,-,-⟩:=hw;go_simp;rfl
     simp only[Zai];refine Zao true (by go_simp) ?_;apply Exists.intro;refine⟨fun g0 w' hw=>?_,?_⟩
     . obtain⟨q1,q2,-,-⟩:=hw;go_simp;rfl
     simp only[Zai];refine Zao true (by go_simp) ?_;apply Exists.intro;refine⟨fun g0 w' hw=>?_,?_⟩
     . obtain⟨q1,q2,-,-⟩:=hw;go_simp;rfl
     simp only[Zai];refine Zao true (by go_simp) ?_;apply Exists.intro;refine⟨fun g0 w' hw=>?_,?_⟩
     . obtain⟨q1,q2,-,-⟩:=hw;go_simp;rfl
     simp only[Zai];refine Zao true (by go_simp) ?_;apply Exists.intro;refine⟨fun g0 w' hw=>?_,?_⟩
     . obtain⟨q1,q2,-,-⟩:=hw;go_simp;rfl
     simp only[Zai];refine Zao true (by go_simp) ?_;apply Exists.intro;refine⟨fun g0 w' hw=>?_,?_⟩
     . obtain⟨q1,q2,-,-⟩:=hw;go_simp;rfl
     simp only[Zai];refine Zao true (by go_simp) ?_;apply Exists.intro;refine⟨fun g0 w' hw=>?_,?_⟩
     . obtain⟨q1,q2,-,-⟩:=hw;go_simp;rfl
     simp only[Zai];refine Zao true (by go_simp) ?_;apply Exists.intro;refine⟨fun g0 w' hw=>?_,?_⟩
     . obtain⟨q1,q2,-,-⟩:=hw;go_simp;rfl
     simp only[Zai];refine Zao true (by go_simp) ?_;apply Exists.intro;refine⟨fun g0 w' hw=>?_,?_⟩
     . obtain⟨q1,q2,-,-⟩:=hw;go_simp;rfl
     simp only[Zai];refine Zao true (by go_simp) ?_;apply Exists.intro;refine⟨fun g0 w' hw=>?_,?_⟩
     . obtain⟨q1,q2,-,-⟩:=hw;go_simp;rfl
     simp only[Zai];refine Zao true (by go_simp) ?_;apply Exists.intro;refine⟨fun g0 w' hw=>?_,?_⟩
     . obtain⟨q1,q2,-,-⟩:=hw;go_simp;rfl
     simp only[Zai];refine Zmr (R:=fun v w'=>∃ z:Int,v=.int .i64 z) (by go_simp) (by go_simp) ((HC.out wr.drew y1 y0 g2.out HM.out.1 HM.out.2).mono fun e w' he=>?_) ?_
     . obtain⟨z,rfl,hb⟩:=he;exact⟨_,rfl,⟨(hb.cell (p:=⟨g,k+1,none⟩) (Zab c1c)).trans c1c,(hb.cell (p:=⟨g,k,none⟩) (Zab c0c)).trans c0c,Hd (g2.out.trans (Wr.of_below hb (· = g)) (fun _ _ h=>h) (fun _ _ h=>h)),Hd (g9.out.below hb)⟩,z,rfl⟩
     rintro v wN ⟨d1,d0,g3,g1⟩ ⟨z,rfl⟩;simp only[Zai];refine Zao true (by go_simp) ?_;apply Exists.intro;refine⟨fun g0 w' hw=>?_,?_⟩
     . obtain⟨q1,q2,-,-⟩:=hw;go_simp;rfl
     simp only[Zai];refine Zaj rfl ?_;apply Exists.intro;refine⟨fun w' hw=>?_,?_⟩
     . obtain⟨q1,q2,-,-⟩:=hw;go_simp;rfl
     simp only[Zai];refine Zdm ?_
     by_cases hz:z<0
     ·have f1:=ga.out wN (k+1) g1.out;have f0:=ga.out wN k g1.out;obtain⟨wS,g6⟩:∃ w,w=(wN.setCell ⟨g,k+1,none⟩ (.int .i64 y0)).setCell ⟨g,k,none⟩ (.int .i64 y1):=⟨_,rfl⟩;have gg:Hid (OwnI wS base (.slice (some ⟨g,0,none⟩) n cap) (Zca c1 (k:Int))):=Hd (by rw[g6];exact g8.out wN g1.out);have ge:Hid (Wr (· = g) W wS):=Hd (by rw[g6];exact(g3.out.setCell (p:=⟨g,k+1,none⟩) (.inl rfl) _).setCell (p:=⟨g,k,none⟩) (.inl rfl) _);have gn:=Hd (show (Zca c1 (k:Int)).Perm cur/\(Zca c1 (k:Int)).length=n from ⟨(Zm5 c1 _).trans HP.out.1,by rw[Zcp];exact HP.out.2⟩);clear HO HP HW g1 g3 HM g8 ga g9 g2 c1c c0c;go_wp2_with fail
      go_region
      rw[<- g6];have gi:=Hd (gg.out.drewN 1);have gh:=Hd ge.out.drew;clear g6 gg ge;go_wp2_with fail;go_roundw
      case rel=>exact⟨k,Zca c1 (k:Int),by omega,by go_num,gi,gn,gh⟩
      case measure=>simp[intOf]
     ·have HX:=Hd (show c1.Perm cur/\c1.length=n from ⟨HP.out.1,HP.out.2⟩);clear HO HP HW HM g8 ga g9 g2 c1c c0c d1 d0;go_wp2_with fail;go_roundw
      case rel=>exact⟨i+1,c1,by omega,by go_num,by omega,g1,HX,g3⟩
      case measure=>simp[intOf];omega
  ·have HF:=Hd (gj.out wo ⟨c1,⟨HP.out.1,HP.out.2⟩,HO.out,HW.out⟩);have gm:¬ (i:Int)<(n:Int):=by omega
   clear HP HO HW gc;go_wp2_with fail
   first|exact HF.out|(refine bodyPost_end (results_none rfl _ _ _) rfl ?_;exact HF.out)
theorem Zzt {base g n cap:Nat}{cur:List Int}{W:World}(hown:OwnI W base (.slice (some ⟨g,0,none⟩) n cap) cur)(hl:cur.length=n)(hn:n<=12) :
 Calls prog 204 #[.slice (some ⟨g,0,none⟩) n cap,.int .i64 0,.int .i64 (n:Nat)] W fun e w'=>e=.returned (.tuple #[])/\∃ c2,(c2.Perm cur/\c2.length=n/\Zbb n c2)/\OwnI w' base (.slice (some ⟨g,0,none⟩) n cap) c2/\Wr (· = g) W w':=by
 obtain⟨P,hP⟩:∃ P:Ending->World->Prop,P=fun e w'=>e=.returned (.tuple #[])/\∃ c2,(c2.Perm cur/\c2.length=n/\Zbb n c2)/\OwnI w' base (.slice (some ⟨g,0,none⟩) n cap) c2/\Wr (· = g) W w':=⟨_,rfl⟩
 have gi:Hid (∀ w',(∃ c2,(c2.Perm cur/\c2.length=n/\Zbb n c2)/\OwnI w' base (.slice (some ⟨g,0,none⟩) n cap) c2/\Wr (· = g) W w')->P (.returned (.tuple #[])) w'):=Hd fun w' h=>by rw[hP];exact⟨rfl,h⟩
 have gc:Hid (∀ c1 W1,OwnI W1 base (.slice (some ⟨g,0,none⟩) n cap) c1->∀ k,k+1<c1.length->OwnI ((W1.setCell ⟨g,k+1,none⟩ (.int .i64 (at0 c1 k))).setCell ⟨g,k,none⟩ (.int .i64 (at0 c1 (k+1)))) base (.slice (some ⟨g,0,none⟩) n cap) (Zca c1 (k:Int))):=Hd fun c1 W1 h k hk=>by
  rw[Zj5 hk,<- List.set_comm _ _ (by omega)];exact(h.stored (k+1) _).stored k _
 have H0:=Hd hown;have HL:=Hd hl;rw[<- hP];clear hP hown hl
 go_enter func204,ntmps204
 go_wp2_with fail
 go_loopw [6,7] (fun s8 _ wr=>∃ (i:Nat) (c1:List Int),1<=i/\s8=.int .i64 (i:Nat)/\(i<=n\/i=1)/\Hid (OwnI wr base (.slice (some ⟨g,0,none⟩) n cap) c1)/\Hid (c1.Perm cur/\c1.length=n/\Zbb i c1)/\Hid (Wr (· = g) W wr)) (fun s8 _ _=>n-(intOf s8).toNat)
 case atStart=>exact⟨1,cur,Nat.le_refl _,rfl,.inr rfl,H0,Hd ⟨List.Perm.refl _,HL.out,Zqo _⟩,Hd (Wr.refl _ _)⟩
 case round =>
  obtain⟨i,c1,gw,rfl,gv,HO,HP,HW⟩:=hrel;obtain⟨wo,gj⟩:∃ w,w=wr:=⟨_,rfl⟩;subst gj;clear H0
  by_cases gp:i<n
  ·have gl:(i:Int)<(n:Int):=by omega
   go_wp2_with fail
   go_loopw [7] (fun s9 wr=>∃ (j:Nat) (c1:List Int),j<=i/\s9=.int .i64 (j:Nat)/\Hid (OwnI wr base (.slice (some ⟨g,0,none⟩) n cap) c1)/\Hid (c1.Perm cur/\c1.length=n/\InsR i j c1)/\Hid (Wr (· = g) W wr)) (fun s9 _=>(intOf s9).toNat)
   case atStart=>exact⟨i,c1,Nat.le_refl _,rfl,HO,Hd ⟨HP.out.1,HP.out.2.1,HP.out.2.2.ins⟩,HW⟩
   case round =>
    clear HO HP HW;obtain⟨j,c1,hj,rfl,HO,HP,HW⟩:=hrel;rcases j with _|k
    ·go_upto_region 4 with fail;refine Zan (fun W1:World=>Hid (W1=wr.drew)) false 15 [(0,false),(1,false),(2,false),(3,false),(4,false),(5,false),(6,false),(7,false),(8,false),(9,false),(10,false),(11,false),(12,false),(13,true),(14,false)] (by kernel_rfl) (by kernel_rfl) (Hd rfl) ?_;simp only[planned,Zdd];refine Zaj rfl ?_;apply Exists.intro;refine⟨fun w' hw=>?_,?_⟩
     . clear hw;go_simp;rfl
     simp only[Zai];refine Zaj rfl ?_;apply Exists.intro;refine⟨fun w' hw=>?_,?_⟩
     . clear hw;go_simp;rfl
     simp only[Zai];refine Zaj rfl ?_;apply Exists.intro;refine⟨fun w' hw=>?_,?_⟩
     . clear hw;go_simp;rfl
     simp only[Zai];refine Zaj rfl ?_;apply Exists.intro;refine⟨fun w' hw=>?_,?_⟩
     . clear hw;go_simp;rfl
     simp only[Zai];refine Zao false (by go_simp) ?_;refine Exists.intro undef (And.intro (fun g0=>absurd g0 (by simp)) ?_);simp only[Zai];refine Zao false (by go_simp) ?_;refine Exists.intro undef (And.intro (fun g0=>absurd g0 (by simp)) ?_);simp only[Zai];refine Zao false (by go_simp) ?_;refine Exists.intro undef (And.intro (fun g0=>absurd g0 (by simp)) ?_);simp only[Zai];refine Zao false (by go_simp) ?_;refine Exists.intro undef (And.intro (fun g0=>absurd g0 (by simp)) ?_);simp only[Zai];refine Zao false (by go_simp) ?_;refine Exists.intro undef (And.intro (fun g0=>absurd g0 (by simp)) ?_);simp only[Zai];refine Zao false (by go_simp) ?_;refine Exists.intro undef (And.intro (fun g0=>absurd g0 (by simp)) ?_);simp only[Zai];refine Zao false (by go_simp) ?_;refine Exists.intro undef (And.intro (fun g0=>absurd g0 (by simp)) ?_);simp only[Zai];refine Zao false (by go_simp) ?_;refine Exists.intro undef (And.intro (fun g0=>absurd g0 (by simp)) ?_);simp only[Zai];refine Zao false (by go_simp) ?_;refine Exists.intro undef (And.intro (fun g0=>absurd g0 (by simp)) ?_);simp only[Zai];refine Zpy (v:=.int .i64 0) (f:=0) (args:=#[]) false (by go_simp) (Hd rfl) (fun h=>by cases h) (fun h=>by cases h) ?_;rintro wN gk;obtain rfl:=gk.out;simp only[Zai];refine Zaj rfl ?_;apply Exists.intro;refine⟨fun w' hw=>?_,?_⟩
     . clear hw;go_simp;rfl
     simp only[Zai];refine Zdm ?_;have g1:=Hd (HO.out.drewN 1);have g2:=Hd HW.out.drew;have HX:=Hd (show c1.Perm cur/\c1.length=n/\Zbb (i+1) c1 from ⟨HP.out.1,HP.out.2.1,HP.out.2.2.exit (.inl rfl)⟩);clear HP;go_wp2_with fail;go_roundw
     case rel=>exact⟨i+1,c1,by omega,by go_num,by omega,g1,HX,g2⟩
     case measure=>simp[intOf];omega
    ·have g6:k+1<c1.length:=by have:=HP.out.2.1;omega
     have c1c:wr.drew.cell? ⟨g,k+1,none⟩=some (.int .i64 (at0 c1 (k+1))):=HO.out.cell (k+1) g6;have c0c:wr.drew.cell? ⟨g,k,none⟩=some (.int .i64 (at0 c1 k)):=HO.out.cell k (by omega);have g9:=Hd (HO.out.drewN 1);have g7:=Hd HW.out.drew;have HM:Hid (at0 c1 (k+1)∈cur/\at0 c1 k∈cur):=Hd ⟨HP.out.1.mem_iff.1 (by rw[Zax g6];exact List.getElem_mem _),HP.out.1.mem_iff.1 (by rw[Zax (show k<c1.length by omega)];exact List.getElem_mem _)⟩;have gd:∀ w2 q,OwnI w2 base (.slice (some ⟨g,0,none⟩) n cap) c1->w2.frozen? ⟨g,q,none⟩=false:=fun w2 q h=>h.frozen q
     have ga:=Hd gd;have gu:k+1<n:=by have:=HP.out.2.1;omega
     have go:(k:Int)+1<(n:Int):=by omega
     have gr:(k:Int)+1-1=(k:Int):=by omega
     have gq:(k:Int)<(n:Int):=by omega
     have gn:IntKind.i64.wrap (k:Int)=(k:Int):=IntWalk.i64_in _ ⟨by omega,by omega⟩;have gt:(k:Int)+1>0:=by omega
     have g8:=Hd (fun W1 h=>gc.out c1 W1 h k g6);obtain⟨y1,g3⟩:∃ y,y=at0 c1 (k+1):=⟨_,rfl⟩;obtain⟨y0,g4⟩:∃ y,y=at0 c1 k:=⟨_,rfl⟩;rw[<- g3] at c1c;rw[<- g4] at c0c;rw[<- g3,<- g4] at HM g8;have HY:=Hd (show y1=at0 c1 (k+1)/\y0=at0 c1 k from ⟨g3,g4⟩);clear g3 g4 g6 gd gc;go_upto_region 4 with fail;refine Zan (fun W1:World=>W1.cell? ⟨g,k+1,none⟩=some (.int .i64 y1)/\W1.cell? ⟨g,k,none⟩=some (.int .i64 y0)/\Hid (Wr (· = g) W W1)/\Hid (OwnI W1 base (.slice (some ⟨g,0,none⟩) n cap) c1)) false 15 [(0,false),(1,false),(2,false),(3,false),(4,false),(5,false),(6,false),(7,false),(8,false),(9,false),(10,false),(11,false),(12,false),(13,true),(14,false)] (by kernel_rfl) (by kernel_rfl) ⟨c1c,c0c,g7,g9⟩ ?_;simp only[planned,Zdd];refine Zaj rfl ?_;apply Exists.intro;refine⟨fun w' hw=>?_,?_⟩
     . obtain⟨q1,q2,-,-⟩:=hw;go_simp;rfl
     simp only[Zai];refine Zaj rfl ?_;apply Exists.intro;refine⟨fun w' hw=>?_,?_⟩
     . obtain⟨q1,q2,-,-⟩:=hw;go_simp;rfl
     simp only[Zai];refine Zaj rfl ?_;apply Exists.intro;refine⟨fun w' hw=>?_,?_⟩
     . obtain⟨q1,q2,-,-⟩:=hw;go_simp;rfl
     simp only[Zai];refine Zaj rfl ?_;apply Exists.intro;refine⟨fun w' hw=>?_,?_⟩
     . obtain⟨q1,q2,-,-⟩:=hw;go_simp;rfl
     simp only[Zai];refine Zao true (by go_simp) ?_;apply Exists.intro;refine⟨fun g0 w' hw=>?_,?_⟩
     . obtain⟨q1,q2,-,-⟩:=hw;go_simp;rfl
     simp only[Zai];refine Zao true (by go_simp) ?_;apply Exists.intro;refine⟨fun g0 w' hw=>?_,?_⟩
     . obtain⟨q1,q2,-,-⟩:=hw;go_simp;rfl
     simp only[Zai];refine Zao true (by go_simp) ?_;apply Exists.intro;refine⟨fun g0 w' hw=>?_,?_⟩
     . obtain⟨q1,q2,-,-⟩:=hw;go_simp;rfl
     simp only[Zai];refine Zao true (by go_simp) ?_;apply Exists.intro;refine⟨fun g0 w' hw=>?_,?_⟩
     . obtain⟨q1,q2,-,-⟩:=hw;go_simp;rfl
     simp only[Zai];refine Zao true (by go_simp) ?_;apply Exists.intro;refine⟨fun g0 w' hw=>?_,?_⟩
     . obtain⟨q1,q2,-,-⟩:=hw;go_simp;rfl
     simp only[Zai];refine Zao true (by go_simp) ?_;apply Exists.intro;refine⟨fun g0 w' hw=>?_,?_⟩
     . obtain⟨q1,q2,-,-⟩:=hw;go_simp;rfl
     simp only[Zai];refine Zao true (by go_simp) ?_;apply Exists.intro;refine⟨fun g0 w' hw=>?_,?_⟩
     . obtain⟨q1,q2,-,-⟩:=hw;go_simp;rfl
     simp only[Zai];refine Zao true (by go_simp) ?_;apply Exists.intro;refine⟨fun g0 w' hw=>?_,?_⟩
     . obtain⟨q1,q2,-,-⟩:=hw;go_simp;rfl
     simp only[Zai];refine Zao true (by go_simp) ?_;apply Exists.intro;refine⟨fun g0 w' hw=>?_,?_⟩
     . obtain⟨q1,q2,-,-⟩:=hw;go_simp;rfl
     simp only[Zai];refine Zmr (R:=fun v w'=>v=.bool (decide (y1<y0))) (by go_simp) (by go_simp) ((Zz0 y1 y0 wr.drew).mono fun e w' he=>?_) ?_
     . obtain⟨rfl,rfl⟩:=he;exact⟨_,rfl,⟨c1c,c0c,g7,g9⟩,rfl⟩
     rintro v wN ⟨d1,d0,g2,g1⟩ rfl;simp only[Zai];refine Zaj rfl ?_;apply Exists.intro;refine⟨fun w' hw=>?_,?_⟩
     . obtain⟨q1,q2,-,-⟩:=hw;go_simp;rfl
     simp only[Zai];refine Zdm ?_
     by_cases hz:y1<y0
     ·have f1:=ga.out wN (k+1) g1.out;have f0:=ga.out wN k g1.out;obtain⟨wS,g5⟩:∃ w,w=(wN.setCell ⟨g,k+1,none⟩ (.int .i64 y0)).setCell ⟨g,k,none⟩ (.int .i64 y1):=⟨_,rfl⟩;have gf:Hid (OwnI wS base (.slice (some ⟨g,0,none⟩) n cap) (Zca c1 (k:Int))):=Hd (by rw[g5];exact g8.out wN g1.out);have ge:Hid (Wr (· = g) W wS):=Hd (by rw[g5];exact(g2.out.setCell (p:=⟨g,k+1,none⟩) (.inl rfl) _).setCell (p:=⟨g,k,none⟩) (.inl rfl) _);have gm:=Hd (show (Zca c1 (k:Int)).Perm cur/\(Zca c1 (k:Int)).length=n/\InsR i k (Zca c1 (k:Int)) from ⟨(Zm5 c1 _).trans HP.out.1,by rw[Zcp];exact HP.out.2.1,HP.out.2.2.step (by have:=HP.out.2.1;omega) (by rw[<- HY.out.1,<- HY.out.2];exact hz)⟩);clear HO HP HW g1 g2 HM g8 ga g9 g7 c1c c0c;go_wp2_with fail
      go_region
      rw[<- g5];have gh:=Hd (gf.out.drewN 1);have gg:=Hd ge.out.drew;clear g5 gf ge;go_wp2_with fail;go_roundw
      case rel=>exact⟨k,Zca c1 (k:Int),by omega,by go_num,gh,gm,gg⟩
      case measure=>simp[intOf]
     ·have HX:=Hd (show c1.Perm cur/\c1.length=n/\Zbb (i+1) c1 from ⟨HP.out.1,HP.out.2.1,HP.out.2.2.exit (.inr (by rw[Nat.add_sub_cancel,<- HY.out.1,<- HY.out.2];omega))⟩);clear HO HP HW HM g8 ga g9 g7 c1c c0c d1 d0;go_wp2_with fail;go_roundw
      case rel=>exact⟨i+1,c1,by omega,by go_num,by omega,g1,HX,g2⟩
      case measure=>simp[intOf];omega
  ·have HF:=Hd (gi.out wo ⟨c1,⟨HP.out.1,HP.out.2.1,fun p q h1 h2=>HP.out.2.2 p q h1 (by omega)⟩,HO.out,HW.out⟩);have gl:¬ (i:Int)<(n:Int):=by omega
   clear HP HO HW gc;go_wp2_with fail
   first|exact HF.out|(refine bodyPost_end (results_none rfl _ _ _) rfl ?_;exact HF.out)
open Go.RowKit
theorem Zxb (x:Nat)(hx:x<64)(w:World):Calls prog 137 #[.int .u64 x] w fun e w'=>(∃ z,e=.returned (.int .i64 z))/\w=w':=by
 have H1:=Hd (Zxa x hx w)
 go_enter func137,ntmps137
 go_wp2_with fail;refine H1.out.mono ?_;rintro e w' ⟨⟨z,rfl⟩,rfl⟩;go_wp2_with fail;go_ret;exact⟨⟨_,rfl⟩,rfl⟩
theorem Yac {base g n cap:Nat}{cur:List Int}{W:World}(hown:OwnI W base (.slice (some ⟨g,0,none⟩) n cap) cur)(hl:cur.length=n)(hn:n<=12){gf:Nat}{lop:Array Value}(eg:∀ args w,(callFunc gf args).run prog w=.ok (.enter gf args) w)(hcmp:∀ W1 x y,Wr (· = g) W W1->x∈cur->y∈cur->Calls prog gf (#[.int .i64 x,.int .i64 y]++lop) W1 fun e w'=>∃ z,e=.returned (.int .i64 z)/\Below W1.heap.size W1 w')(z:Int) :
 Calls prog 136 #[.slice (some ⟨g,0,none⟩) n cap,.int .i64 0,.int .i64 (n:Nat),.int .i64 z,.func (.func gf) #[] lop] W fun e w'=>e=.returned (.tuple #[])/\∃ c2,(c2.Perm cur/\c2.length=n)/\OwnI w' base (.slice (some ⟨g,0,none⟩) n cap) c2/\Wr (· = g) W w':=by
 have HI:=Hd (Zzs hown hl hn eg hcmp);obtain⟨P,hP⟩:∃ P:World->Prop,P=fun w'=>∃ c2,(c2.Perm cur/\c2.length=n)/\OwnI w' base (.slice (some ⟨g,0,none⟩) n cap) c2/\Wr (· = g) W w':=⟨_,rfl⟩
 have e:(fun(e:Ending) (w':World)=>e=.returned (.tuple #[])/\∃ c2,(c2.Perm cur/\c2.length=n)/\OwnI w' base (.slice (some ⟨g,0,none⟩) n cap) c2/\Wr (· = g) W w')=fun e w'=>e=.returned (.tuple #[])/\P w':=by rw[hP]
 rw[e] at HI ⊢;have g0:(n:Int)<=12:=by omega
 clear hP e hown hl hcmp
 go_enter func136,ntmps136
 go_wp2_with fail
 go_loopw [1,2,3] (fun s1 s2 s3 wr=>s1=.int .i64 0/\s2=.int .i64 (n:Nat)/\s3=.int .i64 z/\W=wr) (fun _ _ _ _=>0)
 case atStart=>exact⟨rfl,rfl,rfl,rfl⟩
 case round =>
  obtain⟨rfl,rfl,rfl,rfl⟩:=hrel;go_wp2_with fail;refine HI.out.mono ?_;rintro e w' ⟨rfl,hp⟩;have HP:=Hd hp;clear hp HI;go_wp2_with fail;refine bodyPost_ret (results_none rfl _ _ _) rfl ?_;exact⟨rfl,HP.out⟩
theorem Yd7 {base g n cap:Nat}{cur:List Int}{W:World}(hown:OwnI W base (.slice (some ⟨g,0,none⟩) n cap) cur)(hl:cur.length=n)(hn:n<=12){gf:Nat}{lop:Array Value}(eg:∀ args w,(callFunc gf args).run prog w=.ok (.enter gf args) w)(hcmp:∀ W1 x y,Wr (· = g) W W1->x∈cur->y∈cur->Calls prog gf (#[.int .i64 x,.int .i64 y]++lop) W1 fun e w'=>∃ z,e=.returned (.int .i64 z)/\Below W1.heap.size W1 w') :
 Calls prog 87 #[.slice (some ⟨g,0,none⟩) n cap,.func (.func gf) #[] lop] W fun e w'=>e=.returned (.tuple #[])/\∃ c2,(c2.Perm cur/\c2.length=n)/\OwnI w' base (.slice (some ⟨g,0,none⟩) n cap) c2/\Wr (· = g) W w':=by
 have HI:=Hd (fun z=>Yac hown hl hn eg hcmp z);obtain⟨P,hP⟩:∃ P:World->Prop,P=fun w'=>∃ c2,(c2.Perm cur/\c2.length=n)/\OwnI w' base (.slice (some ⟨g,0,none⟩) n cap) c2/\Wr (· = g) W w':=⟨_,rfl⟩
 have e:(fun(e:Ending) (w':World)=>e=.returned (.tuple #[])/\∃ c2,(c2.Perm cur/\c2.length=n)/\OwnI w' base (.slice (some ⟨g,0,none⟩) n cap) c2/\Wr (· = g) W w')=fun e w'=>e=.returned (.tuple #[])/\P w':=by rw[hP]
 rw[e] at HI ⊢;have g0:=Hd (Zxb n (by omega) W);have g2:IntKind.u64.wrap (n:Int)=(n:Int):=by rw[IntKind.wrap_u64];omega
 clear hP e hown hl hcmp
 go_enter func87,ntmps87
 go_wp2_with fail;refine g0.out.mono ?_;rintro e w' ⟨⟨z,rfl⟩,rfl⟩;have g1:=Hd (HI.out z);clear HI g0;go_wp2_with fail;refine g1.out.mono ?_;rintro e w' ⟨rfl,hp⟩;have HP:=Hd hp;clear hp g1;go_wp2_with fail;refine bodyPost_end (results_none rfl _ _ _) rfl ?_;exact⟨rfl,HP.out⟩
theorem Yad {base g n cap:Nat}{cur:List Int}{W:World}(hown:OwnI W base (.slice (some ⟨g,0,none⟩) n cap) cur)(hl:cur.length=n)(hn:n<=12)(z:Int) :
 Calls prog 149 #[.slice (some ⟨g,0,none⟩) n cap,.int .i64 0,.int .i64 (n:Nat),.int .i64 z] W fun e w'=>e=.returned (.tuple #[])/\∃ c2,(c2.Perm cur/\c2.length=n/\Zbb n c2)/\OwnI w' base (.slice (some ⟨g,0,none⟩) n cap) c2/\Wr (· = g) W w':=by
 have HI:=Hd (Zzt hown hl hn);obtain⟨P,hP⟩:∃ P:World->Prop,P=fun w'=>∃ c2,(c2.Perm cur/\c2.length=n/\Zbb n c2)/\OwnI w' base (.slice (some ⟨g,0,none⟩) n cap) c2/\Wr (· = g) W w':=⟨_,rfl⟩
 have e:(fun(e:Ending) (w':World)=>e=.returned (.tuple #[])/\∃ c2,(c2.Perm cur/\c2.length=n/\Zbb n c2)/\OwnI w' base (.slice (some ⟨g,0,none⟩) n cap) c2/\Wr (· = g) W w')=fun e w'=>e=.returned (.tuple #[])/\P w':=by rw[hP]
 rw[e] at HI ⊢;have g0:(n:Int)<=12:=by omega
 clear hP e hown hl
 go_enter func149,ntmps149
 go_wp2_with fail
 go_loopw [1,2,3] (fun s1 s2 s3 wr=>s1=.int .i64 0/\s2=.int .i64 (n:Nat)/\s3=.int .i64 z/\W=wr) (fun _ _ _ _=>0)
 case atStart=>exact⟨rfl,rfl,rfl,rfl⟩
 case round =>
  obtain⟨rfl,rfl,rfl,rfl⟩:=hrel;go_wp2_with fail;refine HI.out.mono ?_;rintro e w' ⟨rfl,hp⟩;have HP:=Hd hp;clear hp HI;go_wp2_with fail;refine bodyPost_ret (results_none rfl _ _ _) rfl ?_;exact⟨rfl,HP.out⟩
theorem Zyn {base g n cap:Nat}{cur:List Int}{W:World}(hown:OwnI W base (.slice (some ⟨g,0,none⟩) n cap) cur)(hl:cur.length=n)(hn:n<=12) :
 Calls prog 97 #[.slice (some ⟨g,0,none⟩) n cap] W fun e w'=>e=.returned (.tuple #[])/\∃ c2,(c2.Perm cur/\c2.length=n/\Zbb n c2)/\OwnI w' base (.slice (some ⟨g,0,none⟩) n cap) c2/\Wr (· = g) W w':=by
 have HI:=Hd (fun z=>Yad hown hl hn z);obtain⟨P,hP⟩:∃ P:World->Prop,P=fun w'=>∃ c2,(c2.Perm cur/\c2.length=n/\Zbb n c2)/\OwnI w' base (.slice (some ⟨g,0,none⟩) n cap) c2/\Wr (· = g) W w':=⟨_,rfl⟩
 have e:(fun(e:Ending) (w':World)=>e=.returned (.tuple #[])/\∃ c2,(c2.Perm cur/\c2.length=n/\Zbb n c2)/\OwnI w' base (.slice (some ⟨g,0,none⟩) n cap) c2/\Wr (· = g) W w')=fun e w'=>e=.returned (.tuple #[])/\P w':=by rw[hP]
 rw[e] at HI ⊢;have g0:=Hd (Zxb n (by omega) W);have g2:IntKind.u64.wrap (n:Int)=(n:Int):=by rw[IntKind.wrap_u64];omega
 clear hP e hown hl
 go_enter func97,ntmps97
 go_wp2_with fail;refine g0.out.mono ?_;rintro e w' ⟨⟨z,rfl⟩,rfl⟩;have g1:=Hd (HI.out z);clear HI g0;go_wp2_with fail;refine g1.out.mono ?_;rintro e w' ⟨rfl,hp⟩;have HP:=Hd hp;clear hp g1;go_wp2_with fail;refine bodyPost_end (results_none rfl _ _ _) rfl ?_;exact⟨rfl,HP.out⟩
open Go.RowKit
section
variable {K:Law}{n room:Nat}{w0 w W w' wb:World}{mb:Nat}{fs r:List (Int×BF)}{nx:Int}{o0:Own}{ws0:List Ev}{C:Nat->Prop}{B:World->Own->Prop}{P P':List Nat->Prop}
theorem Zh2 (hB:Zbo B)(h:FxO K n room w0 mb ws0 C o0 wb B P fs nx W)(hn:nx<=549755813888)(hr:3*(fs.length*2^n)<=room){v:Value}{zs:List Int}(hz:∀ W o,B W o->SliceIs W v zs)(hzr:Zay zs=true)(hzl:zs.length=n) :
 Calls prog 100 #[.pointer (some ⟨mb,0,none⟩),v] W fun x w'=>x=.returned (.int .i64 0)/\FxO K n room w0 mb ws0 C o0 wb B (fun l=>l.map Int.ofNat=zs) fs nx w':=by
 have hn64:n<=64:=by obtain⟨o,m,V,_,_,h3,_⟩:=h;have:=h3.ok.store.small;rw[h3.vars] at this;exact this
 have gg:=Hd (h.order hB);have gi:=Hd hB;have HZ:=Hd hz;have ge:=Hd hzr;have g8:=Hd hzl;have gl:Hid (∀ (B':World->Own->Prop) (gd:Zbo B') (P P':List Nat->Prop) W k,FxO K n room w0 mb ws0 C o0 wb B' P fs nx W->k+1<n->(∀ l,l.length=n->P l->P' (exL l k))->Calls prog 113 #[.pointer (some ⟨mb,0,none⟩),.int .i64 k] W fun e w'=>e=.returned (.int .i64 0)/\FxO K n room w0 mb ws0 C o0 wb B' P' fs nx w'):=Hd fun B' gd P P' W k hA hk hP=>hA.swap gd hk hn hr hP
 obtain⟨a,c,rfl,-⟩:∃ a c,v=.slice a zs.length c/\True:=by
  obtain⟨o,m,V,_,_,_,h4⟩:=h;obtain⟨a,c,e,_⟩:=hz _ _ h4;exact⟨a,c,e,trivial⟩
 clear h hz hzr hzl hr hB
 go_enter func100,ntmps100
 go_wp2_with fail;refine gg.out.mono ?_;rintro x w1 ⟨v1,l,rfl,hl,gk,g1,_,h1,_⟩;have hs1:SliceIs w1 v1 (l.map Int.ofNat):=h1.know (Q:=fun W=>SliceIs W v1 (l.map Int.ofNat)) fun W o hh=>hh.2.slice
 have ga:SliceIs w1 (.slice a zs.length c) zs:=h1.know (Q:=fun W=>SliceIs W (.slice a zs.length c) zs) fun W o hh=>HZ.out _ _ hh.1
 have g3:=Hd (Zij _ _ _ _ w1 hs1 ga (by rw[List.length_map];omega) (by rw[g8.out];omega));have gf:=Hd (show Zay (l.map Int.ofNat)=true/\(l.map Int.ofNat).length=zs.length from ⟨g1,by rw[List.length_map,hl,g8.out]⟩);have g5:=Zw8 g1 ge.out gf.out.2;have g7:Zcy (l.map Int.ofNat) zs=0:=by unfold Zcy;rw[if_pos ⟨g1,ge.out⟩,if_pos gf.out.2]
 have H1:=Hd h1;obtain⟨ss,g4⟩:∃ ss,ss=Zc1 (l.map Int.ofNat) zs:=⟨_,rfl⟩;unfold Zf5 at g3;rw[g7,<- g4] at g3;rw[<- g4] at g5;have gh:=Hd g5.2;have gm:ss.length<=64*64:=by
  have h2:=Zsp (Zcj zs) (l.map Int.ofNat);have h3:(l.map Int.ofNat).length*(l.map Int.ofNat).length<=64*64:=Nat.mul_le_mul (by rw[List.length_map];omega) (by rw[List.length_map];omega);omega
 clear h1 hs1 ga g5 g7 g4 g1 gk gg;go_wp2_with fail;refine g3.out.mono ?_;rintro x w2 ⟨v2,rfl,g0,gc⟩;have h2:=H1.out.mine (gi.out.and Zbn.keep) gc (g0.sliceIs (by omega)) fun k hk=>g0.lt k hk
 obtain⟨a2,c2,rfl,-,-⟩:=g0.sliceIs (by omega);have H2:Hid (FxO K n room w0 mb ws0 C o0 wb (fun W o=>(B W o/\Zbn v1 (l.map Int.ofNat) W o)/\Zbn (.slice a2 ss.length c2) ss W o) (fun l'=>l'.map Int.ofNat=(ss.take 0).foldl Zca (l.map Int.ofNat)) fs nx w2):=Hd (h2.imp fun l' _ e=>by rw[e];rfl);clear h2 g0 gc g3;go_wp2_with fail
 go_loopw [4,8,9,22] (fun _ _ _ s22 wr=>∃ i:Nat,i<=ss.length/\s22=.int .i64 i/\Hid (FxO K n room w0 mb ws0 C o0 wb (fun W o=>(B W o/\Zbn v1 (l.map Int.ofNat) W o)/\Zbn (.slice a2 ss.length c2) ss W o) (fun l'=>l'.map Int.ofNat=(ss.take i).foldl Zca (l.map Int.ofNat)) fs nx wr)) (fun _ _ _ s22 _=>ss.length-(intOf s22).toNat)
 case atStart=>exact⟨0,Nat.zero_le _,rfl,H2⟩
 case round =>
  clear H2;obtain⟨i,hi,rfl,HI⟩:=hrel
  by_cases g2:i<ss.length
  ·have gn:(i:Int)<ss.length:=by omega
   have gj:SliceIs wr (.slice a2 ss.length c2) ss:=HI.out.know (Q:=fun W=>SliceIs W (.slice a2 ss.length c2) ss) fun W o hh=>hh.2.slice
   obtain⟨a3,c3,e3,g9,_⟩:=gj;injection e3 with e3 _ e4
   subst e3 e4;obtain⟨b,off,rfl,hc⟩:=g9.cells i g2;obtain⟨q1,q2⟩:=gh.out.1 (at0 ss i) (by rw[Zax g2];exact List.getElem_mem _);obtain⟨k,hk⟩:∃ k:Nat,at0 ss i=(k:Int):=⟨(at0 ss i).toNat,by omega⟩;rw[hk] at hc;have g6:k+1<n:=by rw[<- g8.out];omega
   have HS:=Hd (gl.out _ ((gi.out.and Zbn.keep).and Zbn.keep) _ (fun l'=>l'.map Int.ofNat=(ss.take (i+1)).foldl Zca (l.map Int.ofNat)) wr k HI.out g6 (fun l' hl' e=>by
    rw[Zwl (by rw[hl'];exact g6),e,List.take_succ_eq_append_getElem g2,List.foldl_append,List.foldl_cons,List.foldl_nil,<- Zax g2,hk]))
   clear g9 q1 q2 hk g6 HI;go_wp2_with fail;refine HS.out.mono ?_;rintro x w3 ⟨rfl,h3⟩;have H3:=Hd h3;clear h3 HS hc;go_wp2_with fail;go_roundw
   case rel=>exact⟨i+1,by omega,by go_num,H3⟩
   case measure=>simp[intOf];omega
  ·obtain rfl:i=ss.length:=by omega
   have HF:=Hd ((HI.out.withB (B':=B) fun o m V _ hh=>hh.1.1).imp (P':=fun l=>l.map Int.ofNat=zs) fun l' _ e=>by rw[e,List.take_length];exact gh.out.2);clear HI;go_wp2_with fail;go_ret;exact⟨rfl,HF.out⟩
end
open Go.RowKit
open Go.RowKit
section
variable {K:Law}{n room:Nat}{w0 w W W' w' wb:World}{mb:Nat}{fs r:List (Int×BF)}{nx:Int}{o0:Own}{ws0:List Ev}{C:Nat->Prop}{B B2:World->Own->Prop}{P:List Nat->Prop}
theorem FxO.mineB (hB:Zbo B)(h:FxO K n room w0 mb ws0 C o0 wb B P fs nx W)(hb:Below W.heap.size W W')(hq:∀ o,Zah o W->B W' o->B2 W' o):FxO K n room w0 mb ws0 C o0 wb B2 P fs nx W':=by
 obtain⟨o,m,V,h1,h2,h3,h4⟩:=h;exact⟨o,m,V,h1.trans (ChgX.of_below hb o NoB) NoB.sub,h2,h3.below hb,hq o h3.lt (hB _ _ _ _ h4 (ChgX.of_below hb o NoB))⟩
def W22B (c:W22C)(zs vs:List Int)(lv wd:Nat)(L:List (List Int))(vn vv:Value):World->Own->Prop:=fun W o =>
 (BxN c.bl (.int .i64 (lv:Nat)) 3 W o/\BxN c.bw (.int .i64 (wd:Nat)) 3 W o)/\(BxN c.bn vn 22 W o/\Zbn vn zs W o)/\(BxN c.bv vv 22 W o/\Zbn vv vs W o)/\BxA c.br (tabC L) 131 W o
theorem W22B.keep {c:W22C}{zs vs:List Int}{lv wd:Nat}{L:List (List Int)}{vn vv:Value}:Zbo (W22B c zs vs lv wd L vn vv):=(BxN.keep.and BxN.keep).and ((BxN.keep.and Zbn.keep).and ((BxN.keep.and Zbn.keep).and BxA.keep))
theorem W22B.s {c:W22C}{zs vs:List Int}{lv wd:Nat}{L:List (List Int)}{vn vv:Value}{W:World}{o:Own}(h:W22B c zs vs lv wd L vn vv W o):W22S c zs vs lv wd L W :=
 ⟨⟨vn,h.2.1.1.cell,h.2.1.2.slice⟩,h.1.2.cell,⟨vv,h.2.2.1.1.cell,h.2.2.1.2.slice⟩,fun i hi=>by rw[cell_of_row _ _ i _ _ _ h.2.2.2.1];exact Zj7 L hi,h.1.1.cell⟩
end
theorem Zqy {zs vs p:List Int}{lv wd:Nat}(hz:lv+wd<=zs.length)(hv:vs.Perm ((zs.drop lv).take wd))(hp:(p.map fun x=>at0 vs x.toNat).Perm vs)(hpl:p.length=wd):(winZ zs vs lv p).Perm zs:=by
 unfold winZ;rw[hpl];have e:zs=zs.take lv++((zs.drop lv).take wd++zs.drop (lv+wd)):=by
  rw[<- List.drop_drop,List.take_append_drop,List.take_append_drop]
 conv=>rhs;rw[e]
 rw[List.append_assoc];exact(((hp.trans hv).append_right _).append_left _)
theorem Zie {vs p:List Int}{wd:Nat}(hp:p∈ordR wd wd [])(hl:vs.length=wd):(p.map fun x=>at0 vs x.toNat).Perm vs/\p.length=wd/\∀ x∈p,0<=x/\x<(wd:Int):=by
 obtain⟨q1,q2⟩:=Zxx wd wd [] p ⟨List.nodup_nil,fun x hx=>by cases hx⟩ hp;have q3:p.length=wd:=by simpa using q2
 refine⟨?_,q3,q1.2⟩;have g0:(p.map Int.toNat).Perm (List.range wd):=by
  refine(List.perm_ext_iff_of_nodup ?_ List.nodup_range).2 fun k=>?_
  . exact List.pairwise_map.2 (q1.1.imp_of_mem fun {a b} ha hb g1 e=>g1 (by have:=q1.2 a ha;have:=q1.2 b hb;omega))
  ·rw[List.mem_map,List.mem_range];constructor
   . rintro⟨x,hx,rfl⟩;have:=q1.2 x hx;omega
   . intro hk;exact⟨(k:Int),Zx9 (Zgk q1 q3) q3 ⟨by omega,by omega⟩,by simp⟩
 have e1:p.map (fun x=>at0 vs x.toNat)=(p.map Int.toNat).map (at0 vs):=by rw[List.map_map];rfl
 have e2:(List.range wd).map (at0 vs)=vs:=by
  refine List.ext_getElem (by simp[hl]) fun i h1 h2=>?_
  simp[Zax h2]
 rw[e1]
 conv=>rhs;rw[<- e2]
 exact g0.map _
section
variable {K:Law}{n room:Nat}{w0 w W W' w' wb:World}{mb:Nat}{fs r:List (Int×BF)}{nx:Int}{o0:Own}{ws0:List Ev}{C:Nat->Prop}{B:World->Own->Prop}{P:List Nat->Prop}{a:Option Addr}{c:Nat}{ks:List Int}{Fs:List BF}
noncomputable def sizes22 (n:Nat)(Fs:List BF)(zs vs:List Int)(lv wd:Nat):List Int:=(ordR wd wd []).map fun p=>((szO n Fs (winZ zs vs lv p):Nat):Int)
def SzB (base:Nat)(u:Value)(zs:List Int):World->Own->Prop:=fun W o=>OwnI W base u zs/\∀ k,u.ownBlock=some k->o k=none
theorem SzB.keep {base:Nat}{u:Value}{zs:List Int}:Zbo (SzB base u zs):=fun W o W' o' h hc =>
 ⟨by
  refine⟨h.1.1,h.1.2.imp id ?_⟩;rintro⟨g,cap,cur,e,h1,h2,h3⟩;have hk:u.ownBlock=some g:=by rw[e];rfl
  exact⟨g,cap,cur,e,h1,(hc.block g (h.1.lt g hk).2 (h.2 g hk) (fun e=>e)).trans h2,h3⟩,fun k hk=>hc.none' (h.1.lt k hk).2 (h.2 k hk)⟩
theorem FxO.app22 {o8:Own}{w8:World}{P:List Nat->Prop}{u v:Value}{zs:List Int}{x:Int}(h:FxO K n room w0 mb ws0 C o0 wb (fun W o=>BfB o8 w8 W o/\SzB w8.heap.size u zs W o) P fs nx W)(hs:wb.heap.size<=w8.heap.size)(hs0:w0.heap.size<=w8.heap.size)(hown:OwnI W' w8.heap.size v (zs++[x]))(hb:Below w8.heap.size W W')(hk:Zc0 u v W W'):FxO K n room w0 mb ws0 C o0 wb (fun W o=>BfB o8 w8 W o/\SzB w8.heap.size v (zs++[x]) W o) P fs nx W':=by
 have hw:=Zq2 hb.os hb.tape hb.output hb.size hk;have g0:∀ k,u.ownBlock=some k->w8.heap.size<=k:=by
  obtain⟨o,m,V,_,_,_,_,h5⟩:=h;exact fun k hk=>(h5.1.lt k hk).1
 refine h.wrC hw (fun k hk=>.inr (Nat.le_trans hs (g0 k hk))) (fun k hk=>Nat.le_trans hs0 (g0 k hk)) (fun o hh k hk=>hh.2.2 k hk) fun o g2 hh=>⟨hh.1.wr hw g0,hown,fun k g1=>?_⟩
 rcases hk.loc with e|⟨g,e,hg⟩
 . exact hh.2.2 k (by rw[<- e];exact g1)
 . rw[e] at g1;cases g1;exact g2.none hg
theorem Yaa (n:Nat):0<(ordR n n []).length:=by
 have hm:(List.range n).map Int.ofNat∈ordR n n []:=Zs0 n n [] _ ⟨by
  rw[List.nil_append];exact List.pairwise_map.2 ((List.nodup_range (n:=n)).imp fun h e=>h (Int.ofNat.inj e)),fun x hx=>by
  rw[List.nil_append] at hx;obtain⟨k,hk,rfl⟩:=List.mem_map.1 hx;have:=List.mem_range.1 hk;exact⟨Int.natCast_nonneg k,by show (k:Int)<n;omega⟩⟩ (by simp)
 exact List.length_pos_of_mem hm
theorem Zjr (hB:Zbo B){zs:List Int}(hzr:Zay zs=true)(hzl:zs.length=n){lv wd:Nat}(hw1:1<=wd)(hw4:wd<=4)(hlw:lv+wd<=n)(hn:nx<=549755813888)(hr:3*(fs.length*2^n)<=room)(hl:∀ W o,B W o->ArgI w0 W o a ks)(hlen:Fs.length=ks.length)(hmm:∀ i (h:i<ks.length),(ks[i],Fs[i]'(by omega))∈fs)(hsz:Fs.length*2^n<=1000000000)
 (h:FxO K n room w0 mb ws0 C o0 wb B (fun l=>l.map Int.ofNat=zs) fs nx W) :
 Calls prog 41 #[.pointer (some ⟨mb,0,none⟩),.int .i64 lv,.int .i64 wd,.slice a ks.length c] W fun e w'=>∃ (vs:List Int) (b:Nat),vs.Perm ((zs.drop lv).take wd)/\Zbb wd vs/\Ze6 (sizes22 n Fs zs vs lv wd) (ordR wd wd []).length b/\e=.returned (.tuple #[.int .i64 (szO n Fs (winZ zs vs lv ((ordR wd wd []).getD b [])):Nat),.int .i64 0])/\FxO K n room w0 mb ws0 C o0 wb B (fun l=>l.map Int.ofNat=winZ zs vs lv ((ordR wd wd []).getD b [])) fs nx w':=by
 have hn64:n<=64:=by obtain⟨o,m,V,_,_,h3,_⟩:=h;have:=h3.ok.store.small;rw[h3.vars] at this;exact this
 obtain⟨D,hD⟩:∃ D,D=W.heap.size:=⟨_,rfl⟩;obtain⟨B1,gd⟩:∃ B1:World->Own->Prop,B1=fun W' o'=>(B W' o'/\BxN D (.int .i64 (lv:Nat)) 3 W' o')/\BxN (D+1) (.int .i64 (wd:Nat)) 3 W' o':=⟨_,rfl⟩
 have gm:Zbo B1:=by rw[gd];exact(hB.and BxN.keep).and BxN.keep
 obtain⟨w1,gw⟩:∃ w1,w1=(W.alloc (.cells #[.int .i64 (lv:Nat)] 3)).alloc (.cells #[.int .i64 (wd:Nat)] 3):=⟨_,rfl⟩;have t1:FxO K n room w0 mb ws0 C o0 wb B1 (fun l=>l.map Int.ofNat=zs) fs nx w1:=by
  have:=FxO.box (hB.and BxN.keep) (FxO.box hB h (.int .i64 (lv:Nat)) 3) (.int .i64 (wd:Nat)) 3;rw[World.size_alloc,<- hD] at this;rw[gw,gd];exact this
 have kR:=Hd t1;have hF:Hid (∀ i,(hi:i<ks.length)->Calls prog 20 #[.pointer (some ⟨mb,0,none⟩),.int .i64 (at0 ks i)] w1 fun x w'=>x=.returned (.bool true)/\w1=w'):=Hd fun i hi=>t1.ask fun o m V hs _=>by
  rw[Zax hi];exact Zpu hs (hmm i hi)
 have hG:Hid (∀ i,i<ks.length->∃ b off,a=some ⟨b,off,none⟩/\w1.cell? ⟨b,off+i,none⟩=some (.int .i64 (at0 ks i))):=Hd fun i hi=>by
  obtain⟨o,m,V,_,_,_,h4⟩:=t1;rw[gd] at h4;exact(hl _ _ h4.1.1).z.cells i hi
 have HV:Hid (∀ q,Calls prog 62 #[.pointer (some ⟨mb,0,none⟩)] (w1.drewN q) fun x w'=>x=.returned (.int .i64 n)/\w1.drewN q=w'):=Hd fun q=>(t1.below gm (Zag w1 q)).vars
 have hw:Hid (∀ q,Calls prog 19 #[.pointer (some ⟨mb,0,none⟩)] (w1.drewN q) fun x w'=>∃ v,x=.returned v/\OwnI w' (w1.drewN q).heap.size v zs/\FxO K n room w0 mb ws0 C o0 wb (fun W o=>B1 W o/\Zbn v zs W o) (fun l=>l.map Int.ofNat=zs) fs nx w'/\Below w1.heap.size w1 w'):=Hd fun q=>by
  refine((t1.below gm (Zag w1 q)).order gm).mono ?_;rintro x w' ⟨v,l,rfl,-,hP,-,ho,hf,hb⟩;rw[hP] at hf ho;exact⟨v,rfl,ho,hf.imp (P':=fun l=>l.map Int.ofNat=zs) fun l' _ e=>by rw[e];exact hP,(Zag w1 q).trans (hb.mono (Zag w1 q).size)⟩
 obtain⟨c0,c1⟩:w1.cell? ⟨D,0,none⟩=some (.int .i64 (lv:Nat))/\w1.cell? ⟨D+1,0,none⟩=some (.int .i64 (wd:Nat)):=by
  obtain⟨o,m,V,_,_,_,h4⟩:=t1;rw[gd] at h4;exact⟨h4.1.2.cell,h4.2.cell⟩
 have kx:ks.length<=9223372036854775807:=by
  obtain⟨o,m,V,_,_,_,h4⟩:=t1;rw[gd] at h4;exact(hl _ _ h4.1.1).z.len
 obtain⟨N,hN⟩:∃ N,N=ks.length:=⟨_,rfl⟩;rw[<- hN] at hF hG kx ⊢;have HN:=Hd hN;have HW1:=Hd gw.symm;have HH:=Hd (And.intro hlen hmm);clear h hN gw t1
 go_enter func41,ntmps41
 go_upto_region 1 with fail;rw[<- hD,HW1.out];clear HW1 hD;go_wp2_with fail
 go_loopw [8,9,11,28] (fun s8 s9 _ s28 wr=>∃ i:Nat,i<=N/\s8=.int .i64 0/\s9=.int .i64 0/\s28=.int .i64 (i:Nat)/\wr=w1) (fun _ _ _ s28 _=>N-(intOf s28).toNat)
 case atStart=>exact⟨0,Nat.zero_le _,rfl,rfl,rfl,rfl⟩
 case round =>
  obtain⟨i,hi,rfl,rfl,rfl,rfl⟩:=hrel
  by_cases g0:i<N
  ·obtain⟨b,off,rfl,ci⟩:=hG.out i g0;have HI:=Hd (hF.out i g0);obtain⟨k1,gU⟩:∃ k1,k1=at0 ks i:=⟨_,rfl⟩;rw[<- gU] at ci HI;have kL:(i:Int)<(N:Int):=by omega
   clear gU hw HV;go_wp2_with fail;refine HI.out.mono ?_;rintro x w2 ⟨rfl,rfl⟩;clear HI;go_wp2_with fail;go_roundw
   case rel=>exact⟨i+1,g0,rfl,rfl,by go_num,(by first|rfl|trivial)⟩
   case measure=>simp[intOf];omega
  ·obtain rfl:i=N:=by omega
   have g1:¬ (wd:Int)<1:=by omega
   have g2:¬ (wd:Int)>4:=by omega
   have g3:¬ (lv:Int)<0:=by omega
   have g4:¬ (lv:Int)>(n:Int)-(wd:Int):=by omega
   have kH:(n:Int)<=64:=by omega
   have g5:IntKind.i64.wrap ((n:Int)-(wd:Int))=(n:Int)-(wd:Int):=IntWalk.i64_in _ (by omega);clear hF hG;go_wp2_with fail
   go_quiet ((with_reducible exact Zbd (HV.out _)))
   have HO:=Hd (hw.out nq);have d0:(wr.drewN nq).cell? ⟨D,0,none⟩=some (.int .i64 (lv:Nat)):=c0;have d1:(wr.drewN nq).cell? ⟨D+1,0,none⟩=some (.int .i64 (wd:Nat)):=c1;obtain⟨wq,gP⟩:∃ W,W=wr.drewN nq:=⟨_,rfl⟩;rw[<- gP] at HO d0 d1 ⊢;have kP:Below wr.heap.size wr wq:=by rw[gP];exact Zag wr nq
   clear gP hw HV;go_wp2_with fail;refine HO.out.mono ?_;rintro x w2 ⟨vn,rfl,ho,gY,h6⟩;obtain⟨g,cap,rfl,hg,kN⟩:=ho.shape (by omega);have kl:n<=cap:=by
    rcases ho.2 with ⟨hv,_⟩|⟨g',cap',cur,hv,_,_,h4,_⟩
    . cases hv
    . cases hv;omega
   obtain⟨bn,gf⟩:∃ q,q=w2.heap.size:=⟨_,rfl⟩;obtain⟨w3,gi⟩:∃ W,W=w2.alloc (.cells #[.slice (some ⟨g,0,none⟩) n cap] 22):=⟨_,rfl⟩;rw[hzl] at ho gY ⊢;have gn:Below w2.heap.size w2 w3:=by rw[gi];exact Zae _ _
   have hU:w3.heap.size=bn+1:=by rw[gi,gf];simp
   have k3:w3.heap[bn]?=some (.cells #[.slice (some ⟨g,0,none⟩) n cap] 22 (0,0)):=by rw[gi,gf];exact heap_alloc_new _ _
   have e1:w3.cell? ⟨bn,0,none⟩=some (.slice (some ⟨g,0,none⟩) n cap):=cell1 k3;have d0':=(h6.cell (p:=⟨D,0,none⟩) (Zab c0)).trans c0;have d1':=(h6.cell (p:=⟨D+1,0,none⟩) (Zab c1)).trans c1;have e2:=(gn.cell (p:=⟨D,0,none⟩) (Zab d0')).trans d0';have e3:=(gn.cell (p:=⟨D+1,0,none⟩) (Zab d1')).trans d1';have hS:SliceIs w3 (.slice (some ⟨g,lv,none⟩) wd (cap-lv)) ((zs.drop lv).take wd):=by
    have kp:=((ho.below gn).sliceOf (by omega));obtain⟨a',c',e',kt⟩:=kp;injection e' with e1' e2' e3'
    subst e1';refine⟨_,_,by rw[List.length_take,List.length_drop,Nat.min_eq_left (by omega)],⟨by simp;omega,fun j hj=>?_⟩,fun e=>by cases e⟩;rw[List.length_take,List.length_drop] at hj;obtain⟨b',off',e4,h4⟩:=kt.cells (lv+j) (by omega);cases e4;refine⟨g,lv,rfl,?_⟩;rw[Nat.zero_add] at h4;rw[h4,Zh0 (by omega),Zhz]
   have kf:=Hd (Zl9 hS (by simp;omega));have k4:=Hd gi.symm;have kd:=Hd gY;have kD:=Hd ho;have hJ:=Hd gn;have kr:(lv:Int)<=(lv:Int)+(wd:Int):=by omega
   have kq:(lv:Int)+(wd:Int)<=(cap:Int):=by omega
   have ki:=Hd gf;have ka:=Hd k3;have kQ:D+1<bn:=by rw[gf];exact Zab d1'
   have he:=Hd hU;clear HO gY ho gn gi k3 hS d0 d1 d0' d1' h6 c0 c1 hU;go_upto_region 12 with fail;rw[<- gf,k4.out];clear gf k4 g1 g2 g3 g4 g5;go_wp2_with fail;refine kf.out.mono ?_;rintro x w4 ⟨vv,rfl,gE,gc⟩;obtain⟨gv,cv,rfl,hY,gV⟩:=gE.shape (by simp;omega);have hO:((zs.drop lv).take wd).length=wd:=by simp;omega
   rw[hO] at gE ⊢;obtain⟨bv,gH⟩:∃ q,q=w4.heap.size:=⟨_,rfl⟩;obtain⟨w5,gD⟩:∃ W,W=w4.alloc (.cells #[.slice (some ⟨gv,0,none⟩) wd cv] 22):=⟨_,rfl⟩;have gI:Below w4.heap.size w4 w5:=by rw[gD];exact Zae _ _
   have k5:w5.heap[bv]?=some (.cells #[.slice (some ⟨gv,0,none⟩) wd cv] 22 (0,0)):=by rw[gD,gH];exact heap_alloc_new _ _
   have f1:w5.cell? ⟨bv,0,none⟩=some (.slice (some ⟨gv,0,none⟩) wd cv):=cell1 k5;have f3:=(gI.cell (p:=⟨D+1,0,none⟩) (Zab ((gc.cell (p:=⟨D+1,0,none⟩) (Zab e3)).trans e3))).trans ((gc.cell (p:=⟨D+1,0,none⟩) (Zab e3)).trans e3);have k7:=Hd (Zyn (gE.below gI) hO (by omega));have k0:=Hd gD.symm;have hI:=Hd gc;have hH:=Hd gI;have kg:=Hd gH;have HG:=Hd (And.intro hY gV);have hE:=Hd k5;clear kf gD gc gI k5 gE hY gV e1 e2 e3;go_upto_region 13 with fail;rw[<- gH,k0.out];clear gH k0 kr kq;go_wp2_with fail;refine k7.out.mono ?_;rintro x w6 ⟨rfl,vs,⟨hR,gj,hQ⟩,gR,gQ⟩;have hW:∀ {q:Nat},q≠gv->q<w5.heap.size->w6.heap[q]?=w5.heap[q]?:=fun h1 h2=>gQ.keep _ h2 h1
   have f6:w6.cell? ⟨D+1,0,none⟩=some (.int .i64 (wd:Nat)):=(World.cell?_of_block (w:=w5) (hW (q:=D+1) (by have h1:=HG.out.1;have h2:=he.out;omega) (Zab f3))).trans f3;have HA:=Hd (Zvt hw4 w6);have gq:=Hd (And.intro gR gQ);have g9:=Hd (And.intro hR (And.intro gj hQ));clear k7 f1 f3 hW gR gQ hR gj hQ;go_wp2_with fail;refine HA.out.mono ?_;rintro x w7 ⟨rfl,h0⟩;obtain⟨L,hL⟩:∃ L,L=ordR wd wd []:=⟨_,rfl⟩;rw[<- hL];have gu:=Hd h0;have HL:=Hd hL;have kB:L.length<=24:=by rw[hL];exact ord24 hw4
   have f7:=(h0.cell (p:=⟨D+1,0,none⟩) (Zab f6)).trans f6;clear HA h0 hL f6;obtain⟨br,ge⟩:∃ q,q=w7.heap.size:=⟨_,rfl⟩;obtain⟨w8,gC⟩:∃ W,W=w7.alloc (.cells (tabC L) 131):=⟨_,rfl⟩;have kw:(storeCells ⟨w7.heap.size,0,none⟩ (tabC L).toList).run prog (w7.alloc (.cells Tryz.zeroCells131 131))=.ok () w8:=by
    rw[gC]
    exact run_storeCells_new w7 _ _ (tabC L) (by rw[Zc4];kernel_rfl) (by rw[Zc4];kernel_rfl) (by
     rw[Array.all_eq_true];intro k hk;have kz:k<96:=by rw[Zc4] at hk;exact hk
     have:=Zj7 L kz;rw[Array.getElem?_eq_getElem hk] at this;rw[Option.some.inj this];rfl)
   have gg:Below w7.heap.size w7 w8:=by rw[gC];exact Zae _ _
   have k8:w8.heap[br]?=some (.cells (tabC L) 131 (0,0)):=by rw[gC,ge];exact heap_alloc_new _ _
   have f8:=(gg.cell (p:=⟨D+1,0,none⟩) (Zab f7)).trans f7;have kI:∀ (fn:Fn) (first cap:Array Value) (w:World),(Instr.makeFunc fn first cap).run prog w=.ok (.func fn first cap) w:=fun _ _ _ _=>rfl
   have kh:=Hd ge;have gt:=Hd gg;have k9:=Hd k8;clear gC gg k8 f7;go_upto_region 15 with fail;rw[<- ge];clear ge kw;go_upto_region 17 with fail
   have kc:Hid (FxO K n room w0 mb ws0 C o0 wb (fun W o=>B W o/\W22B ⟨bn,D+1,bv,br,D⟩ zs vs lv wd L (.slice (some ⟨g,0,none⟩) n cap) (.slice (some ⟨gv,0,none⟩) wd cv) W o) (fun l=>l.map Int.ofNat=zs) fs nx w8):=Hd (by
    have z3:=he.out;have z4:=hI.out.size;have z5:=hH.out.size;have z6:=gq.out.2.size;have z7:=gu.out.size;have z8:=gt.out.size;have zg:=HG.out.1;have zv:=kg.out;have zb:=ki.out;have zr:=kh.out;have zg2:=HG.out.2;have h5:Below w3.heap.size w3 w6:=(hI.out.trans (hH.out.mono z4)).trans (gq.out.2.below (fun k hk=>by omega) (by omega));have gg:Below w3.heap.size w3 w8:=(h5.trans (gu.out.mono h5.size)).trans (gt.out.mono (by have:=h5.size;omega));have km:Below w2.heap.size w2 w8:=hJ.out.trans (gg.mono hJ.out.size);have b57:∀ {q:Nat},q≠gv->q<w5.heap.size->w8.heap[q]?=w5.heap[q]?:=fun h1 h2=>(gt.out.block _ (by omega)).trans ((gu.out.block _ (by omega)).trans (gq.out.2.keep _ h2 h1))
    have kn:w8.heap[bn]?=some (.cells #[.slice (some ⟨g,0,none⟩) n cap] 22 (0,0)):=(gg.block bn (by omega)).trans ka.out;have kv:w8.heap[bv]?=some (.cells #[.slice (some ⟨gv,0,none⟩) wd cv] 22 (0,0)):=(b57 (by omega) (Array.getElem?_eq_some_iff.1 hE.out).1).trans hE.out;have kj:SliceIs w8 (.slice (some ⟨gv,0,none⟩) wd cv) vs:=(gq.out.1.sliceIs (by have:=g9.out.2.1;omega)).below (gu.out.trans (gt.out.mono z7));refine kd.out.mineB (gm.and Zbn.keep) km fun o g0 hh=>?_
    obtain⟨gG,kA⟩:=hh;rw[gd] at gG;exact⟨gG.1.1,⟨gG.1.2,gG.2⟩,⟨⟨kn,g0.none (b:=bn) (by omega)⟩,kA⟩,⟨⟨kv,g0.none (b:=bv) (by omega)⟩,kj,fun k hk=>by cases hk;exact⟨show gv<w8.heap.size by omega,g0.none (b:=gv) (by omega)⟩⟩,k9.out,g0.none (b:=br) (by omega)⟩)
   obtain⟨o8,m8,V8,x1,x2,x3,h9⟩:=kc.out;have gy:wb.heap.size<=w8.heap.size/\w0.heap.size<=w8.heap.size:=⟨x1.size,x3.chg.size⟩;have gJ:∀ W o,BfB o8 w8 W o->B W o/\W22S ⟨bn,D+1,bv,br,D⟩ zs vs lv wd L W:=fun W o hh=>⟨hB _ _ _ _ h9.1 hh,(W22B.keep _ _ _ _ h9.2 hh).s⟩
   obtain⟨wz,g7⟩:∃ f:Nat->List Int,f=fun k=>winZ zs vs lv (L.getD k []):=⟨_,rfl⟩
   obtain⟨SZ,go⟩:∃ s,s=sizes22 n Fs zs vs lv wd:=⟨_,rfl⟩;have h8:∀ k,k<L.length->L.getD k []∈ordR wd wd []:=fun k hk=>by
    rw[<- HL.out,List.getD,List.getElem?_eq_getElem hk];exact List.getElem_mem hk
   have g6:Hid (SZ.length=L.length):=Hd (by rw[go,HL.out];simp[sizes22]);have hd:Hid (∀ k,k<L.length->SZ.take (k+1)=SZ.take k++[((szO n Fs (wz k):Nat):Int)]):=Hd fun k hk=>by
    rw[List.take_succ_eq_append_getElem (by rw[g6.out];exact hk)];congr 2;subst go g7;have e:=HL.out;subst e;simp only[sizes22,List.getElem_map,List.getD,List.getElem?_eq_getElem hk,Option.getD_some]
   have ha:Hid (∀ k,k<L.length->Zay (wz k)=true/\(wz k).length=n):=Hd fun k hk=>by
    obtain⟨p1,p2,_⟩:=Zie (h8 k hk) g9.out.2.1;have hp:=Zqy (lv:=lv) (by omega) g9.out.1 p1 p2;have hX:(winZ zs vs lv (L.getD k [])).length=n:=by rw[hp.length_eq];exact hzl
    have hq:=Zil hzr hzl;rw[g7];exact⟨Zgk ⟨hp.nodup_iff.2 hq.1,fun x hx=>hq.2 x (hp.mem_iff.1 hx)⟩ hX,hX⟩
   obtain⟨T,hT⟩:∃ T:Nat->Value->(List Nat->Prop)->World->Prop,T=fun k u Q W=>FxO K n room w0 mb ws0 C o0 wb (fun W o=>BfB o8 w8 W o/\SzB w8.heap.size u (SZ.take k) W o) Q fs nx W:=⟨_,rfl⟩
   have k6:Hid (T 0 (.slice none 0 0) (fun _=>True) w8):=Hd (by
    rw[hT];exact⟨o8,m8,V8,x1,x2,x3.withOd trivial,ChgX.of_below (Below.refl _ _) _ _,⟨rfl,.inl ⟨rfl,rfl⟩⟩,fun k hk=>by cases hk⟩)
   have gh:Hid (∀ k j u W,k<L.length->T j u (fun _=>True) W->Calls prog 99 #[.int .i64 (k:Nat),.pointer (some ⟨bn,0,none⟩),.pointer (some ⟨D+1,0,none⟩),.pointer (some ⟨bv,0,none⟩),.pointer (some ⟨br,0,none⟩),.pointer (some ⟨D,0,none⟩)] W fun x w'=>∃ v,x=.returned v/\Hid (Calls prog 100 #[.pointer (some ⟨mb,0,none⟩),v] w' fun x w2=>x=.returned (.int .i64 0)/\T j u (fun l=>l.map Int.ofNat=wz k) w2)):=by
    intro k j u W hk ht;rw[hT] at ht;have hs:W22S ⟨bn,D+1,bv,br,D⟩ zs vs lv wd L W:=ht.know fun W o hh=>(gJ W o hh.1).2
    obtain⟨p1,p2,p3⟩:=Zie (h8 k hk) g9.out.2.1;have hK:=Zzc (k:=k) hs (by omega) rfl p2 hw4 hw1 p3 g9.out.2.1 (by omega) (by omega);refine Calls.mono hK ?_;rintro x w' ⟨v,rfl,hv,hb⟩;refine⟨v,rfl,Hd ?_⟩;have gj:(winZ zs vs lv (L.getD k [])).length=n:=by
     have:=(ha.out k hk).2;rw[g7] at this;exact this
    have hm:=ht.mine (BfB.keep.and SzB.keep) hb (hv.sliceIs (by rw[gj];omega)) (fun q hq=>hv.lt q hq);have ge:=Zh2 ((BfB.keep.and SzB.keep).and Zbn.keep) hm hn hr (fun W o hh=>hh.2.slice) (by have:=(ha.out k hk).1;rw[g7] at this;exact this) gj;refine ge.mono fun x w2 hh=>⟨hh.1,?_⟩
    rw[hT,g7];exact hh.2.withB fun _ _ _ _ q=>q.1
   have gB:Hid (∀ k u W,k<L.length->T k u (fun l=>l.map Int.ofNat=wz k) W->Calls prog 65 #[.pointer (some ⟨mb,0,none⟩),.slice a i c] W fun x w'=>x=.returned (.tuple #[.int .i64 (szO n Fs (wz k):Nat),.int .i64 0])/\T k u (fun l=>l.map Int.ofNat=wz k) w'):=by
    intro k u W hk ht;rw[hT] at ht;have:=FxO.size (c:=c) (BfB.keep.and SzB.keep) ht (fun W o hh=>hl W o (gJ W o hh.1).1) hlen hmm;rw[<- HN.out] at this;refine this.mono fun x w' hh=>⟨hh.1,?_⟩
    rw[hT];exact hh.2
   have hz:Hid (∀ k u W v W',k<L.length->T k u (fun l=>l.map Int.ofNat=wz k) W->OwnI W' w8.heap.size v (SZ.take k++[((szO n Fs (wz k):Nat):Int)])->Below w8.heap.size W W'->Zc0 u v W W'->T (k+1) v (fun _=>True) W'):=Hd fun k u W v W' hk ht ho hb ky=>by
    rw[hT] at ht ⊢;have:=(ht.imp (P':=fun _=>True) fun _ _ _=>trivial).app22 gy.1 gy.2 ho hb ky;rw[<- hd.out k hk] at this;exact this
   have gK:Hid (∀ k u Q W,T k u Q W->OwnI W w8.heap.size u (SZ.take k)/\w8.heap.size<=W.heap.size):=Hd fun k u Q W ht=>by
    rw[hT] at ht;exact ht.know (Q:=fun W=>OwnI W w8.heap.size u (SZ.take k)/\w8.heap.size<=W.heap.size) fun W o hh=>⟨hh.2.1,hh.1.size⟩
   have gM:Hid (∀ b u W,Ze6 SZ L.length b->T L.length u (fun l=>l.map Int.ofNat=wz b) W->FxO K n room w0 mb ws0 C o0 wb B (fun l=>l.map Int.ofNat=winZ zs vs lv ((ordR wd wd []).getD b [])) fs nx W):=Hd fun b u W _ ht=>by
    rw[hT,g7,HL.out] at ht;exact ht.withB fun _ _ _ _ hh=>(gJ _ _ hh.1).1
   have gL:Hid (∀ b,b<L.length->at0 SZ b=((szO n Fs (wz b):Nat):Int)/\szO n Fs (wz b)=szO n Fs (winZ zs vs lv ((ordR wd wd []).getD b []))):=Hd fun b hb=>by
    refine⟨?_,by rw[g7,HL.out]⟩;rw[Zax (by rw[g6.out];exact hb)];subst go g7;have e:=HL.out;subst e;simp only[sizes22,List.getElem_map,List.getD,List.getElem?_eq_getElem hb,Option.getD_some]
   have gN:Hid (∀ b,Ze6 SZ L.length b->Ze6 (sizes22 n Fs zs vs lv wd) (ordR wd wd []).length b):=Hd fun b hb=>by rw[<- go,<- HL.out];exact hb
   have h7:0<L.length:=by rw[HL.out];exact Yaa wd
   have ke:=Hd Zrg;have kk:∀ k,szO n Fs (wz k)<=1000000000:=fun k=>Nat.le_trans (Ybx n Fs (wz k)) hsz
   have hc:=Hd (And.intro g9.out.1 g9.out.2.2);obtain⟨LN,hZ⟩:∃ q,q=L.length:=⟨_,rfl⟩;rw[<- hZ] at kB g6 hd ha gh gB hz gM gL gN h7 ⊢;clear hT gJ h8 x1 x2 x3 h9 hZ g7 go kc f8 kd kD gq hJ hI hH gu gt ka hE k9 he HG kg ki kh g9 HL gy gd gm kl;go_wp2_with fail
   go_loopw [8,9,17,18,19,20,21,73] (fun s8 s9 s17 _ _ _ _ s73 wr=>∃ (k:Nat) (u:Value),k<=LN/\s8=.int .i64 0/\s9=.int .i64 0/\s17=u/\s73=.int .i64 (k:Nat)/\Hid (T k u (fun _=>True) wr)) (fun _ _ _ _ _ _ _ s73 _=>LN-(intOf s73).toNat)
   case atStart=>exact⟨0,_,Nat.zero_le _,rfl,rfl,rfl,rfl,k6⟩
   case round =>
    obtain⟨k,u,hk,rfl,rfl,rfl,rfl,gp⟩:=hrel;clear k6
    by_cases g0:k<LN
    ·have kK:(k:Int)<(LN:Int):=by omega
     have HA:=Hd (gh.out k k _ _ g0 gp.out);have eg:=ke.out;clear gp gM gL gN hc;go_wp2_with fail;refine HA.out.mono ?_;rintro x w9 ⟨v9,rfl,gr⟩;clear HA eg;go_wp2_with fail;refine gr.out.mono ?_;rintro x w10 ⟨rfl,g8⟩;have hu:=Hd (gB.out k _ _ g0 g8);clear gr g8;go_wp2_with fail;refine hu.out.mono ?_;rintro x w11 ⟨rfl,gx⟩;obtain⟨gS,gO⟩:=gK.out _ _ _ _ gx;have ku:=kk k;obtain⟨sx,ga⟩:∃ q,q=szO n Fs (wz k):=⟨_,rfl⟩;have hA:Hid (∀ v W',OwnI W' w8.heap.size v (SZ.take k++[(sx:Int)])->Below w8.heap.size w11 W'->Zc0 u17 v w11 W'->T (k+1) v (fun _=>True) W'):=Hd (by rw[ga];exact fun v W' h1 h2 h3=>hz.out k _ _ v W' g0 gx h1 h2 h3);have hy:=Hd gS;rw[<- ga] at ku ⊢;have kJ:(SZ.take k).length<=24:=by rw[List.length_take];omega
     clear ga gx gS hu;go_wp2_with (at_builtin;refine Zbe _ rfl _ _ rfl w8.heap.size w11 u17 (SZ.take k) (sx:Int) rfl rfl rfl rfl hy.out (by omega) gO (Below.refl _ _) ?_;intro v4 w4 gF gc kF gT);have HN:=Hd (hA.out v4 w4 gF gc gT);clear gF gc gT hA hy gO;go_roundw
     case rel=>exact⟨k+1,_,g0,rfl,rfl,rfl,by go_num,HN⟩
     case measure=>simp[intOf];omega
    ·obtain rfl:k=LN:=by omega
     obtain⟨gl,kG⟩:=gK.out _ _ _ _ gp.out;have gk:SZ.take k=SZ:=by rw[<- g6.out,List.take_length]
     rw[gk] at gl;obtain⟨gs,cs,rfl,kM,_⟩:=gl.shape (by rw[g6.out];exact h7);obtain⟨as',cs',e',hM⟩:=gl.sliceOf (by rw[g6.out];omega);injection e' with e1' e2' e3'
     subst e1';have hC:=Hd (Zro (c:=cs) hM (by rw[g6.out];exact h7) (by rw[g6.out];omega));rw[g6.out] at hC gl ⊢;have gA:=Hd gp.out;rw[g6.out] at gA;clear hM e2' e3' gl gp gk gB hz hd;go_wp2_with fail;refine hC.out.mono ?_;rintro x wr' ⟨b,rfl,gX,rfl⟩;have kb:=Hd gX;have gZ:b<k:=gX.1;have HA:=Hd (gh.out b k _ _ gZ gA.out);have eg:=ke.out;clear hC gX gh;go_wp2_with fail;refine HA.out.mono ?_;rintro x w9 ⟨v9,rfl,gr⟩;clear HA eg;go_wp2_with fail;refine gr.out.mono ?_;rintro x w10 ⟨rfl,g8⟩;obtain⟨gz,kE⟩:=gK.out _ _ _ _ g8;have gk:SZ.take k=SZ:=by rw[<- g6.out,List.take_length]
     rw[gk] at gz;have c10:=gz.cell b (by rw[g6.out];exact gZ);obtain⟨v1,v2⟩:=gL.out b gZ;rw[v1,v2] at c10;have HF:=Hd (gM.out b _ _ kb.out g8);have ko:=Hd (gN.out b kb.out);have kO:(b:Int)<(k:Int):=by omega
     obtain⟨sx,ga⟩:∃ q,q=szO n Fs (winZ zs vs lv ((ordR wd wd []).getD b [])):=⟨_,rfl⟩;have kC:=Hd ga;rw[<- ga] at c10;clear gr g8 gz v1 v2 ga gM gL gN gK gA gk;go_wp2_with fail
     first|go_ret|go_ret2|go_ret3
     exact⟨vs,b,hc.out.1,hc.out.2,ko.out,by rw[<- kC.out];rfl,HF.out⟩
end
end Go.Proofs.YtkidaindpahefaaGreat

namespace Go.Proofs
open Go.Proofs.Tryz
open Go.Shelf
def Tryz.laysNm221_ren:Go.Shelf.Ren:=⟨fun|21=>156|27=>213|28=>214|35=>254|39=>155|n=>n,fun|22=>22|3=>3|4=>4|0=>0|n=>n,fun|n=>n⟩
theorem Tryz.laysNm221:Go.Proofs.Lays2.n21 prog Tryz.laysNm221_ren:={
 mixed:=by kernel_rfl
 f21:=func156.trans (congrArg some (by kernel_rfl))
 f27:=func213.trans (congrArg some (by kernel_rfl))
 f28:=func214.trans (congrArg some (by kernel_rfl))
 f35:=func254.trans (congrArg some (by kernel_rfl))
 f39:=func155.trans (congrArg some (by kernel_rfl))
 t0:=underlying0
 a0:=Tryz.isAgg0
 z0:=Tryz.sizeOf0
 v0:=zeroValue0
 t3:=underlying3
 a3:=Tryz.isAgg3
 z3:=Tryz.sizeOf3
 v3:=zeroValue3
 t4:=underlying4
 a4:=Tryz.isAgg4
 z4:=Tryz.sizeOf4
 v4:=zeroValue4
 t22:=underlying22
 a22:=Tryz.isAgg22
 z22:=Tryz.sizeOf22
 v22:=zeroValue22
 i3:=by kernel_rfl }
end Go.Proofs

namespace Go.Proofs.YtkidaindpahefaaGreat
open Go.Proofs.Tryz
open Go.RowKit
theorem Ztx {w:World}{base g n f:Nat}{zs:List Int}(h:OwnI w base (.slice (some ⟨g,0,none⟩) n n) zs)(hg:base<=g)(hf:f<n)(hn:n<1000000) :
 Calls prog 133 #[.slice (some ⟨g,0,none⟩) n n,.int .i64 f,.int .i64 ((f:Int)+1)] w fun e w' =>
  e=.returned (.slice (some ⟨g,0,none⟩) (n-1) n)/\OwnI w' base (.slice (some ⟨g,0,none⟩) n n) (zs.take f++zs.drop (f+1)++[0])/\Below base w w':=by
 obtain rfl:=h.len;have g0:=Tryz.slices_Delete_int_cells g 0 zs.length zs.length f (f+1) zs w (Nat.le_refl _) (Nat.le_refl _) (by omega) (by omega) (by omega) (fun j hj=>by rw[Nat.zero_add];exact h.cell j hj) (fun j hj=>by rw[Nat.zero_add];exact h.frozen j);rw[show ((f+1:Nat):Int)=(f:Int)+1 by omega,show f+1-f=1 by omega,List.take_length] at g0;refine g0.mono fun e w' ⟨he,q,hw⟩=>⟨he,?_,?_⟩
 . subst hw;have:=OwnI.setCells (zs.take f++zs.drop (f+1)++[0]) (w.drewN q) 0 zs (h.drewN q) (by simp;omega);have e:zs.drop (0+(zs.take f++zs.drop (f+1)++[0]).length)=[]:=List.drop_of_length_le (by simp;omega);rw[e,List.take_zero,List.nil_append,List.append_nil] at this;exact this
 . subst hw;exact Zcd hg _ _ _ (Za9 (Below.refl _ _) _)
theorem Zqn {w:World}{base g n c:Nat}{zs:List Int}(h:OwnI w base (.slice (some ⟨g,0,none⟩) n c) zs)(hp:0<zs.length):∃ k,w.shape? g=some (3,k)/\k≠0:=by
 rcases h.2 with ⟨hv,_⟩|⟨g',cap,cur,hv,hb,hg,g0,g2,g1,_⟩
 . cases hv
 . simp only[Value.slice.injEq,Option.some.injEq,Addr.mk.injEq,and_true] at hv;obtain⟨rfl,_,rfl⟩:=hv;exact⟨cur.size,by simp[World.shape?,hg],by omega⟩
theorem Zua {w:World}{base g n t vb:Nat}{m:List Int}{x z:Int}(h:OwnI w base (.slice (some ⟨g,0,none⟩) n n) (m++[z]))(hg:base<=g)(ht:t<n)(hn:n<1000000)
 (hvb:vb≠g) (hv:w.heap[vb]?=some (.cells #[.int .i64 x] 3 (0,0))) :
 Calls prog 156 #[.slice (some ⟨g,0,none⟩) (n-1) n,.int .i64 t,.slice (some ⟨vb,0,none⟩) 1 1] w fun e w' =>
  e=.returned (.slice (some ⟨g,0,none⟩) n n)/\OwnI w' base (.slice (some ⟨g,0,none⟩) n n) (m.take t++[x]++m.drop t)/\Below base w w':=by
 have hl:=h.len;simp only[List.length_append,List.length_cons,List.length_nil] at hl;have g2:∀ j v,[Value.int .i64 x][j]?=some v->w.cell? ⟨vb,0+j,none⟩=some v:=by
  intro j v hj;cases j with
  | zero=>simp at hj;subst hj;simp[World.cell?,hv]
  | succ j=>simp at hj
 have g1:∀ j,j<n->(w.cell? ⟨g,0+j,none⟩).isSome=true:=fun j hj=>by rw[Nat.zero_add,h.cell j (by simp;omega)];rfl
 have g4:∀ j,w.frozen? ⟨g,0+j,none⟩=false:=fun j=>by rw[Nat.zero_add];exact h.frozen j
 by_cases g5:t=n-1
 ·subst g5;have g0:=Any2.slices_Insert_int_end_room Tryz.laysNm221 g 0 (n-1) n vb 0 1 1 [.int .i64 x] w (by omega) (by omega) (by omega) rfl
   (fun j hj=>by have:=g1 (n-1+j) (by omega);rwa [<- Nat.add_assoc] at this) (fun j hj=>by have:=g4 (n-1+j);rwa [<- Nat.add_assoc] at this) g2 (ints_oneCell .i64 [x])
  refine g0.mono fun e w' ⟨he,hw⟩=>⟨?_,?_,?_⟩
  . rw[he,show n-1+1=n by omega]
  ·subst hw;have:=OwnI.setCells [x] w (0+(n-1)) (m++[z]) h (by simp;omega);have e1:(m++[z]).take (0+(n-1))++[x]++(m++[z]).drop (0+(n-1)+[x].length)=m.take (n-1)++[x]++m.drop (n-1):=by
    have hm:m.length=n-1:=by omega
    rw[Nat.zero_add,List.take_append_of_le_length (by omega),List.drop_of_length_le (by simp;omega),List.drop_of_length_le (by omega)]
   rw[e1] at this;exact this
  . subst hw;exact Zcd hg _ _ _ (Below.refl _ _)
 ·obtain⟨kb,g6,g8⟩:=Zqn h (by simp);have g9:∀ j v,(Za0 m)[j]?=some v->w.cell? ⟨g,0+j,none⟩=some v:=by
   intro j v hj;have g3:j<m.length:=by
    rcases Nat.lt_or_ge j m.length with h'|h'
    . exact h'
    . simp[Za0,List.getElem?_eq_none h'] at hj
   simp[Za0,getElem?_at0 g3] at hj;subst hj;rw[Nat.zero_add,h.cell j (by simp;omega)];simp[at0,List.getD,List.getElem?_append_left g3]
  have g0:=Any2.slices_Insert_int_shift Tryz.laysNm221 g 0 (n-1) n t vb 0 1 1 (Za0 m) [.int .i64 x] w (by omega) (by omega) (by omega) (by omega) hvb (by rw[Zev];omega) rfl
   g9 (fun j hj=>g1 j (by omega)) (fun j _=>g4 j) g2 (ints_oneCell .i64 m) (ints_oneCell .i64 [x]) 3 3 1 kb (by simp[World.shape?,hv]) g6 g8 (by simp[World.frozen?,hv]) (by simp[World.frozen?,hv])
  refine g0.mono fun e w' ⟨he,hw⟩=>⟨?_,?_,?_⟩
  . rw[he,show n-1+1=n by omega]
  ·subst hw;have e0:(Za0 m).drop t=Za0 (m.drop t):=by simp[Za0,List.map_drop]
   rw[e0];have h1:=OwnI.setCells (m.drop t) w.drew (0+(t+1)) (m++[z]) h (by simp;omega);have h2:=OwnI.setCells [x] _ (0+t) _ h1 (by rw[<- h1.len];simp;omega);have e1:((m++[z]).take (0+(t+1))++m.drop t++(m++[z]).drop (0+(t+1)+(m.drop t).length)).take (0+t)++[x]++((m++[z]).take (0+(t+1))++m.drop t++(m++[z]).drop (0+(t+1)+(m.drop t).length)).drop (0+t+[x].length)=m.take t++[x]++m.drop t:=by
    have e3:(m++[z]).take (t+1)=m.take (t+1):=List.take_append_of_le_length (by omega);have e4:(m++[z]).drop (t+1+(m.drop t).length)=[]:=List.drop_of_length_le (by simp;omega);rw[Nat.zero_add,Nat.zero_add,e3,e4,List.append_nil];have g7:(m.take (t+1)).length=t+1:=by simp;omega
    have hd:(m.take (t+1)++m.drop t).drop (t+[x].length)=m.drop t:=by
     have:=List.drop_left (l₁:=m.take (t+1)) (l₂:=m.drop t);rw[g7] at this;exact this
    rw[hd,List.take_append_of_le_length (by omega),List.take_take,show min t (t+1)=t by omega]
   rw[e1] at h2;exact h2
  . subst hw;exact Zcd hg _ _ _ (Zcd hg _ _ _ (Za9 (Below.refl _ _) 1))
theorem Zp5 (a:Option Addr)(c:Nat)(zs:List Int)(f t:Int)(w:World)(h:Zav w a zs)(hlen:zs.length<1000000) :
 Calls prog 105 #[.slice a zs.length c,.int .i64 f,.int .i64 t] w fun e w'=>∃ v,e=.returned v/\OwnI w' w.heap.size v (Ze2 zs f t)/\Below w.heap.size w w':=by
 have HI:=Hd h;clear h
 by_cases g4:(0<=f/\f<zs.length)/\(0<=t/\t<zs.length)
 ·obtain⟨⟨ge,gh⟩,gd,gg⟩:=g4;obtain⟨f,rfl⟩:=Int.eq_ofNat_of_zero_le ge;obtain⟨t,rfl⟩:=Int.eq_ofNat_of_zero_le gd;have g9:f<zs.length:=by omega
  have g8:t<zs.length:=by omega
  have d1:decide ((f:Int)<0)=false:=by simp
  have d2:decide ((zs.length:Int)<=f)=false:=by simp;omega
  have d3:decide ((t:Int)<0)=false:=by simp
  have d4:decide ((zs.length:Int)<=t)=false:=by simp;omega
  have HF:=Hd (Zky g9 g8)
  go_enter func105,ntmps105
  go_wp2_with fail;refine(Zd0 _ _ zs _ HI.out hlen).mono ?_;rintro e w1 ⟨g,rfl,g0,g1⟩;have hg:w.heap.size<=g:=(g0.lt g rfl).1;have q0:=g0.cell f (by omega);go_wp2_with fail;refine(Ztx g0 hg g9 hlen).mono ?_;rintro e w2 ⟨rfl,g3,g7⟩;have ga:=g1.trans g7;have gf:=(g3.lt g rfl).2;go_wp2_with fail;have g5:=g3.alloc (.cells #[.int .i64 (at0 zs f)] 3);refine(Zua (vb:=w2.heap.size) (x:=at0 zs f) g5 hg g8 hlen (by omega) (heap_alloc_new w2 _)).mono ?_;rintro e w3 ⟨rfl,g2,g6⟩;have gc:=ga.size;go_wp2_with fail;go_ret;refine⟨_,rfl,?_,(ga.alloc gc _).trans g6⟩;rw[HF.out] at g2;exact g2
 ·have HF:=Hd (Zxq g4);have HX:=Hd g4;clear g4
  by_cases c1:f<0
  ·have d1:decide (f<0)=true:=by simpa using c1
   go_enter func105,ntmps105
   go_wp2_with fail;refine(Zd0 _ _ zs _ HI.out hlen).mono ?_;rintro e w1 ⟨g,rfl,g0,g1⟩;go_wp2_with fail;go_ret;exact⟨_,rfl,by rw[HF.out];exact g0,g1⟩
  ·have d1:decide (f<0)=false:=by simpa using c1
   by_cases c2:(zs.length:Int)<=f
   ·have d2:decide ((zs.length:Int)<=f)=true:=by simpa using c2
    go_enter func105,ntmps105
    go_wp2_with fail;refine(Zd0 _ _ zs _ HI.out hlen).mono ?_;rintro e w1 ⟨g,rfl,g0,g1⟩;go_wp2_with fail;go_ret;exact⟨_,rfl,by rw[HF.out];exact g0,g1⟩
   ·have d2:decide ((zs.length:Int)<=f)=false:=by simpa using c2
    by_cases c3:t<0
    ·have d3:decide (t<0)=true:=by simpa using c3
     go_enter func105,ntmps105
     go_wp2_with fail;refine(Zd0 _ _ zs _ HI.out hlen).mono ?_;rintro e w1 ⟨g,rfl,g0,g1⟩;go_wp2_with fail;go_ret;exact⟨_,rfl,by rw[HF.out];exact g0,g1⟩
    ·have d3:decide (t<0)=false:=by simpa using c3
     have c4:(zs.length:Int)<=t:=by have:=HX.out;omega
     have d4:decide ((zs.length:Int)<=t)=true:=by simpa using c4
     go_enter func105,ntmps105
     go_wp2_with fail;refine(Zd0 _ _ zs _ HI.out hlen).mono ?_;rintro e w1 ⟨g,rfl,g0,g1⟩;go_wp2_with fail;go_ret;exact⟨_,rfl,by rw[HF.out];exact g0,g1⟩
theorem Zn4 (a:Option Addr)(c:Nat)(zs:List Int)(w:World)(h:Zav w a zs)(hlen:zs.length<1000000) :
 Calls prog 104 #[.slice a zs.length c] w fun e w'=>∃ v,e=.returned v/\OwnI w' w.heap.size v zs.reverse/\Below w.heap.size w w':=by
 have HI:=Hd h;clear h
 go_enter func104,ntmps104
 go_wp2_with fail;refine(Zd0 _ _ zs _ HI.out hlen).mono ?_;rintro e w1 ⟨g,rfl,g0,g3⟩;have hg:w.heap.size<=g:=(g0.lt g rfl).1;go_wp2_with fail;refine(Tryz.slices_Reverse_int_cells g 0 zs.length zs.length zs w1 (Nat.le_refl _) (by omega) (fun j hj=>by rw[Nat.zero_add];exact g0.cell j hj) (fun j hj=>by rw[Nat.zero_add];exact g0.frozen j)).mono ?_;rintro e w2 ⟨rfl,q,g1⟩;have h2:=OwnI.setCells zs.reverse (w1.drewN q) 0 zs (g0.drewN q) (by simp);have e:zs.drop (0+zs.reverse.length)=[]:=List.drop_of_length_le (by simp);rw[e,List.take_zero,List.nil_append,List.append_nil] at h2;have g2:Below w.heap.size w ((w1.drewN q).setCells g 0 (Za0 zs.reverse)):=Zcd hg _ _ _ (Za9 g3 _);rw[List.take_length] at g1
 change w2=(w1.drewN q).setCells g 0 (Za0 zs.reverse) at g1
 rw[<- g1] at h2 g2;clear g1;go_wp2_with fail;go_ret;exact⟨_,rfl,h2,g2⟩
open Go.RowKit
open Go.RowKit
open Go.RowKit
open Go.RowKit
end Go.Proofs.YtkidaindpahefaaGreat

namespace Go.Proofs.YtkidaindpahefaaGreat
open Go.Proofs.Tryz
open Go.RowKit
open Go.RowKit
open Go.RowKit
section
variable {K:Law}{n room:Nat}{w0 w W w' wb:World}{mb gb:Nat}{fs r:List (Int×BF)}{nx:Int}{o0:Own}{ws0:List Ev}{C:Nat->Prop}{B:World->Own->Prop}{P P':List Nat->Prop}{lv v:Value}{gs:List (List Int)}
theorem Zqd (hB:Zbo B)(h:FxO K n room w0 mb ws0 C o0 wb B P fs nx W)(hn:nx<=549755813888)(hr:3*(fs.length*2^n)<=room){zs:List Int}(hz:∀ W o,B W o->SliceIs W v zs)(hzr:Zay zs=true)(hzl:zs.length=n) :
 Calls prog 44 #[.pointer (some ⟨mb,0,none⟩),v] W fun x w'=>x=.returned (.int .i64 0)/\FxO K n room w0 mb ws0 C o0 wb B (fun l=>l.map Int.ofNat=zs) fs nx w':=by
 have hn64:n<=64:=by obtain⟨o,m,V,_,_,h3,_⟩:=h;have:=h3.ok.store.small;rw[h3.vars] at this;exact this
 have HV:=Hd h.vars;have g2:Hid (∀ w',Below W.heap.size W w'->Calls prog 100 #[.pointer (some ⟨mb,0,none⟩),v] w' fun x w'=>x=.returned (.int .i64 0)/\FxO K n room w0 mb ws0 C o0 wb B (fun l=>l.map Int.ofNat=zs) fs nx w'):=Hd fun w' hb=>Zh2 hB (h.below hB hb) hn hr hz hzr hzl
 have hs:SliceIs W v zs:=h.know (Q:=fun W=>SliceIs W v zs) fun W o hh=>hz W o hh
 obtain⟨a,c,rfl,g0,_⟩:=hs;have HZ:=Hd g0;have HR:=Hd hzr;subst hzl;clear h hB hz g0 hzr hr
 go_enter func44,ntmps44
 go_wp2_with fail;refine HV.out.mono ?_;rintro x w' ⟨rfl,rfl⟩;go_wp2_with fail;refine(Zbp _ _ zs _ HZ.out (by omega)).mono ?_;rintro e w1 ⟨rfl,g1⟩;rw[HR.out];have HB2:=Hd (g2.out w1 g1);clear g1 g2;go_wp2_with fail;refine HB2.out.mono ?_;rintro x w2 ⟨rfl,h2⟩;have H2:=Hd h2;clear h2 HB2;go_wp2_with fail;go_ret;exact⟨rfl,H2.out⟩
end
open Go.RowKit
theorem Zy0 (v:Value)(W:World):Calls prog 44 #[.pointer none,v] W fun x w'=>x=.returned (.int .i64 5)/\W=w':=by
 go_enter func44,ntmps44
 go_wp2_with fail;go_ret;exact⟨rfl,rfl⟩
theorem Zsa (W:World):Calls prog 45 #[.pointer none] W fun x w'=>x=.returned (.int .i64 5)/\W=w':=by
 go_enter func45,ntmps45
 go_wp2_with fail;go_ret;exact⟨rfl,rfl⟩
section
variable {K:Law}{n room:Nat}{w0 w W W' w' wb:World}{mb:Nat}{fs r:List (Int×BF)}{nx:Int}{o0:Own}{ws0:List Ev}{C:Nat->Prop}{B:World->Own->Prop}{P:List Nat->Prop}{v:Value}{zs:List Int}
theorem Zx6 (hB:Zbo B)(h:FxO K n room w0 mb ws0 C o0 wb B P fs nx W)(hz:SliceIs W v zs)(hno:¬ (zs.length=n/\Zay zs=true)) :
 Calls prog 44 #[.pointer (some ⟨mb,0,none⟩),v] W fun x w'=>x=.returned (.int .i64 1)/\Below W.heap.size W w':=by
 have hn64:n<=64:=by obtain⟨o,m,V,_,_,h3,_⟩:=h;have:=h3.ok.store.small;rw[h3.vars] at this;exact this
 have HV:=Hd h.vars;obtain⟨a,c,rfl,g0,_⟩:=hz
 by_cases hl:zs.length=n
 ·have hr:Zay zs=false:=by
   cases e:Zay zs with
   | true=>exact(hno ⟨hl,e⟩).elim
   | false=>rfl
  have g1:=Hd (Zbp a c zs W g0 (by omega));rw[hr,hl] at g1;rw[hl];clear h hB g0 hno hr hl
  go_enter func44,ntmps44
  go_wp2_with fail;refine HV.out.mono ?_;rintro x w' ⟨rfl,rfl⟩;go_wp2_with fail;refine g1.out.mono ?_;rintro e w1 ⟨rfl,g2⟩;have g4:=Hd g2;clear g2 g1;go_wp2_with fail;go_ret;exact⟨rfl,g4.out⟩
 ·have g3:((zs.length:Int) != (n:Int))=true:=by rw[bne_iff_ne];omega
  obtain⟨N,hN⟩:∃ N,N=zs.length:=⟨_,rfl⟩;rw[<- hN] at g3 ⊢;clear h hB g0 hno hl hN
  go_enter func44,ntmps44
  go_wp2_with fail;refine HV.out.mono ?_;rintro x w' ⟨rfl,rfl⟩;go_wp2_with fail;go_ret;exact⟨rfl,Below.refl _ _⟩
theorem Zht (hr:Zay zs=true)(hl:zs.length=n):Zay zs.reverse=true/\zs.reverse.length=n:=by
 have h:=Zil hr hl;have g0:zs.reverse.length=n:=by simpa using hl
 exact⟨Zgk ⟨(List.reverse_perm zs).nodup_iff.2 h.1,fun x hx=>h.2 x (List.mem_reverse.1 hx)⟩ g0,g0⟩
theorem Zi5 (hr:Zay zs=true)(hl:zs.length=n){f t:Nat}(hf:f<n)(ht:t<n):Zay (Ze2 zs (f:Int) (t:Int))=true/\(Ze2 zs (f:Int) (t:Int)).length=n:=by
 have h:=Zil hr hl;have hp:=Zur (zs:=zs) (f:=f) (t:=t) (by omega) (by omega);have g0:(Ze2 zs (f:Int) (t:Int)).length=n:=by rw[hp.length_eq];exact hl
 exact⟨Zgk ⟨hp.nodup_iff.2 h.1,fun x hx=>h.2 x (hp.mem_iff.1 hx)⟩ g0,g0⟩
theorem Zvc (hB:Zbo B)(hr:Zay zs=true)(hl:zs.length=n)(h:FxO K n room w0 mb ws0 C o0 wb B (fun l=>l.map Int.ofNat=zs) fs nx W)(hn:nx<=549755813888)(hroom:3*(fs.length*2^n)<=room) :
 Calls prog 45 #[.pointer (some ⟨mb,0,none⟩)] W fun x w'=>x=.returned (.int .i64 0)/\FxO K n room w0 mb ws0 C o0 wb B (fun l=>l.map Int.ofNat=zs.reverse) fs nx w':=by
 have hn64:n<=64:=by obtain⟨o,m,V,_,_,h3,_⟩:=h;have:=h3.ok.store.small;rw[h3.vars] at this;exact this
 obtain⟨g2,g3⟩:=Zht hr hl;have g4:=Hd (h.order hB);have g1:Hid (∀ W l v w',FxO K n room w0 mb ws0 C o0 wb (fun W o=>B W o/\Zbn l zs W o) (fun l=>l.map Int.ofNat=zs) fs nx W->Below W.heap.size W w'->OwnI w' W.heap.size v zs.reverse->Calls prog 100 #[.pointer (some ⟨mb,0,none⟩),v] w' fun x w'=>x=.returned (.int .i64 0)/\FxO K n room w0 mb ws0 C o0 wb B (fun l=>l.map Int.ofNat=zs.reverse) fs nx w'):=Hd fun W l v w' hf hb ho=>by
  have hm:=hf.mine (hB.and Zbn.keep) hb (ho.sliceIs (by omega)) (fun q hq=>ho.lt q hq);exact(Zh2 ((hB.and Zbn.keep).and Zbn.keep) hm hn hroom (fun W o hh=>hh.2.slice) g2 g3).mono fun x w2 hh=>⟨hh.1,hh.2.withB fun _ _ _ _ q=>q.1.1⟩
 obtain⟨Q,hQ⟩:∃ Q:World->Prop,Q=fun w'=>FxO K n room w0 mb ws0 C o0 wb B (fun l=>l.map Int.ofNat=zs.reverse) fs nx w':=⟨_,rfl⟩
 have e0:(fun(x:Ending) (w':World)=>x=.returned (.int .i64 0)/\FxO K n room w0 mb ws0 C o0 wb B (fun l=>l.map Int.ofNat=zs.reverse) fs nx w')=fun x w'=>x=.returned (.int .i64 0)/\Q w':=by rw[hQ]
 rw[e0];rw[e0] at g1;have g5:=Hd hl;clear h hB hroom e0 hQ hr hl g2 g3
 go_enter func45,ntmps45
 go_wp2_with fail;refine g4.out.mono ?_;rintro x w1 ⟨v,l,rfl,-,hP,-,-,hf,-⟩;rw[hP] at hf;have g0:=hf.imp (P':=fun l=>l.map Int.ofNat=zs) fun l' _ e=>by rw[e];exact hP
 obtain⟨a,c,rfl,hz,-⟩:=g0.know (Q:=fun W=>SliceIs W v zs) fun W o hh=>hh.2.slice
 have HT:=Hd (Zn4 a c zs w1 hz (by have:=g5.out;omega));rw[g5.out] at HT ⊢;have HF:=Hd g0;clear hf g0 hz g4 hP;go_wp2_with fail;refine HT.out.mono ?_;rintro x w2 ⟨v2,rfl,ho,hb⟩;have HB:=Hd (g1.out w1 _ v2 w2 HF.out hb ho);clear ho hb HT HF g1;go_wp2_with fail;refine HB.out.mono ?_;rintro x w3 ⟨rfl,hq⟩;have HQ:=Hd hq;clear hq HB;go_wp2_with fail;go_ret;exact⟨rfl,HQ.out⟩
theorem Zup (hB:Zbo B)(hr:Zay zs=true)(hl:zs.length=n)(h:FxO K n room w0 mb ws0 C o0 wb B (fun l=>l.map Int.ofNat=zs) fs nx W)(hn:nx<=549755813888)(hroom:3*(fs.length*2^n)<=room){f t:Nat}(hf:f<n)(ht:t<n) :
 Calls prog 47 #[.pointer (some ⟨mb,0,none⟩),.int .i64 (f:Nat),.int .i64 (t:Nat)] W fun x w'=>x=.returned (.int .i64 0)/\FxO K n room w0 mb ws0 C o0 wb B (fun l=>l.map Int.ofNat=Ze2 zs (f:Int) (t:Int)) fs nx w':=by
 have hn64:n<=64:=by obtain⟨o,m,V,_,_,h3,_⟩:=h;have:=h3.ok.store.small;rw[h3.vars] at this;exact this
 obtain⟨g3,g4⟩:=Zi5 hr hl hf ht;have g5:=Hd (h.order hB);have HV:=Hd h.vars;have g2:Hid (∀ W l v w',FxO K n room w0 mb ws0 C o0 wb (fun W o=>B W o/\Zbn l zs W o) (fun l=>l.map Int.ofNat=zs) fs nx W->Below W.heap.size W w'->OwnI w' W.heap.size v (Ze2 zs (f:Int) (t:Int))->Calls prog 100 #[.pointer (some ⟨mb,0,none⟩),v] w' fun x w'=>x=.returned (.int .i64 0)/\FxO K n room w0 mb ws0 C o0 wb B (fun l=>l.map Int.ofNat=Ze2 zs (f:Int) (t:Int)) fs nx w'):=Hd fun W l v w' hf hb ho=>by
  have hm:=hf.mine (hB.and Zbn.keep) hb (ho.sliceIs (by omega)) (fun q hq=>ho.lt q hq);exact(Zh2 ((hB.and Zbn.keep).and Zbn.keep) hm hn hroom (fun W o hh=>hh.2.slice) g3 g4).mono fun x w2 hh=>⟨hh.1,hh.2.withB fun _ _ _ _ q=>q.1.1⟩
 obtain⟨Q,hQ⟩:∃ Q:World->Prop,Q=fun w'=>FxO K n room w0 mb ws0 C o0 wb B (fun l=>l.map Int.ofNat=Ze2 zs (f:Int) (t:Int)) fs nx w':=⟨_,rfl⟩
 have e0:(fun(x:Ending) (w':World)=>x=.returned (.int .i64 0)/\FxO K n room w0 mb ws0 C o0 wb B (fun l=>l.map Int.ofNat=Ze2 zs (f:Int) (t:Int)) fs nx w')=fun x w'=>x=.returned (.int .i64 0)/\Q w':=by rw[hQ]
 rw[e0];rw[e0] at g2;have g8:(f:Int)<(n:Int):=by omega
 have g7:(t:Int)<(n:Int):=by omega
 have g6:=Hd hl;clear h hB hroom e0 hQ hr hl g3 g4
 go_enter func47,ntmps47
 go_wp2_with fail;refine HV.out.mono ?_;rintro x w' ⟨rfl,rfl⟩;go_wp2_with fail;refine HV.out.mono ?_;rintro x w' ⟨rfl,rfl⟩;clear HV;go_wp2_with fail;refine g5.out.mono ?_;rintro x w1 ⟨v,l,rfl,-,hP,-,-,g1,-⟩;rw[hP] at g1;have g0:=g1.imp (P':=fun l=>l.map Int.ofNat=zs) fun l' _ e=>by rw[e];exact hP
 obtain⟨a,c,rfl,hz,-⟩:=g0.know (Q:=fun W=>SliceIs W v zs) fun W o hh=>hh.2.slice
 have HT:=Hd (Zp5 a c zs (f:Int) (t:Int) w1 hz (by have:=g6.out;omega));rw[g6.out] at HT ⊢;have HF:=Hd g0;clear g1 g0 hz g5 hP;go_wp2_with fail;refine HT.out.mono ?_;rintro x w2 ⟨v2,rfl,ho,hb⟩;have HB:=Hd (g2.out w1 _ v2 w2 HF.out hb ho);clear ho hb HT HF g2;go_wp2_with fail;refine HB.out.mono ?_;rintro x w3 ⟨rfl,hq⟩;have HQ:=Hd hq;clear hq HB;go_wp2_with fail;go_ret;exact⟨rfl,HQ.out⟩
theorem Zms (hB:Zbo B)(h:FxO K n room w0 mb ws0 C o0 wb B P fs nx W){f t:Int}(hno:¬ ((0<=f/\f<(n:Int))/\0<=t/\t<(n:Int))) :
 Calls prog 47 #[.pointer (some ⟨mb,0,none⟩),.int .i64 f,.int .i64 t] W fun x w'=>x=.returned (.int .i64 2)/\W=w':=by
 have HV:=Hd h.vars;have hc:f<0\/(¬ f<0/\f>=(n:Int))\/(¬ f<0/\¬ f>=(n:Int)/\t<0)\/(¬ f<0/\¬ f>=(n:Int)/\¬ t<0/\t>=(n:Int)):=by omega
 clear h hB hno;rcases hc with g1|⟨g1,g2⟩|⟨g1,g2,g3⟩|⟨g1,g2,g3,g4⟩
 ·go_enter func47,ntmps47
  go_wp2_with fail;go_ret;exact⟨rfl,rfl⟩
 ·go_enter func47,ntmps47
  go_wp2_with fail;refine HV.out.mono ?_;rintro x w' ⟨rfl,rfl⟩;go_wp2_with fail;go_ret;exact⟨rfl,rfl⟩
 ·go_enter func47,ntmps47
  go_wp2_with fail;refine HV.out.mono ?_;rintro x w' ⟨rfl,rfl⟩;go_wp2_with fail;go_ret;exact⟨rfl,rfl⟩
 ·go_enter func47,ntmps47
  go_wp2_with fail;refine HV.out.mono ?_;rintro x w' ⟨rfl,rfl⟩;go_wp2_with fail;refine HV.out.mono ?_;rintro x w' ⟨rfl,rfl⟩;go_wp2_with fail;go_ret;exact⟨rfl,rfl⟩
end
open Go.RowKit
theorem Zi1 (w:World)(base:Nat):OwnI w base (.slice none 0 0) []:=⟨rfl,.inl ⟨rfl,rfl⟩⟩
theorem Zkf (a a':Option Addr)(c c':Nat)(xs ys:List Int)(w:World)(h:Zav w a xs)(h':Zav w a' ys) :
 Calls prog 95 #[.slice a xs.length c,.slice a' ys.length c'] w fun e w'=>e=.returned (.bool (decide (xs=ys)))/\∃ n,w'=w.drewN n:=by
 obtain⟨hl,hc⟩:=h;have HC:=Hd hc;clear hc;obtain⟨g7,g1⟩:=h';have g4:=Hd g1;clear g1
 by_cases g0:xs.length=ys.length
 ·have H1:(xs.length == ys.length)=true:=by simpa using g0
  have HL:=Hd g0;have g6:xs.length<=ys.length:=by omega
  have g8:ys.length<=xs.length:=by omega
  have H2:((xs.length:Int) == ys.length)=true:=by simp[g0]
  have H3:((xs.length:Int) != ys.length)=false:=by simp[g0]
  clear g0
  go_enter func95,ntmps95
  go_wp2
  go_loopw [5] (fun i wr=>∃ k:Nat,k<=xs.length/\i=.int .i64 k/\(∀ j,j<k->at0 xs j=at0 ys j)/\∃ n,wr=w.drewN n) (fun i _=>xs.length-(intOf i).toNat)
  case atStart=>exact⟨0,Nat.zero_le _,rfl,by omega,0,rfl⟩
  case round =>
   obtain⟨k,hk,rfl,hrel,n,rfl⟩:=hrel;have HR:=Hd hrel;clear hrel
   by_cases g2:k<xs.length
   ·obtain⟨b,off,rfl,g5⟩:=HC.out k g2;obtain⟨b',off',rfl,g3⟩:=g4.out k (by omega)
    by_cases hx:at0 xs k=at0 ys k
    ·have H4:(at0 xs k != at0 ys k)=false:=by simpa using hx
     have HX:=Hd hx;clear hx
     go_wp2
     go_region
     go_wp2
     go_roundw
     case rel=>exact⟨k+1,by omega,by go_num,(fun j hj=>by
      by_cases e:j=k
      . subst e;exact HX.out
      . exact HR.out j (by omega)),_,rfl⟩
     case measure=>simp[intOf];omega
    ·have H4:(at0 xs k != at0 ys k)=true:=by simpa using hx
     go_wp2
     go_region
     go_wp2
     go_ret;exact⟨Zb3 (by symm;simp;rintro rfl;exact hx rfl),_,rfl⟩
   ·go_wp2
    go_ret;exact⟨Zb3 (by symm;simp;exact Zfa HL.out (fun j hj=>HR.out j (by omega))),_,rfl⟩
 ·have H2:((xs.length:Int) != ys.length)=true:=by simp;omega
  go_enter func95,ntmps95
  go_wp2
  go_ret;exact⟨Zb3 (by symm;simp;rintro rfl;exact g0 rfl),0,rfl⟩
theorem Zn7 (a:Option Addr)(c:Nat)(zs:List Int)(w:World)(h:Zav w a zs)(hlen:zs.length<1000000) :
 Calls prog 46 #[.slice a zs.length c] w fun e w'=>∃ v,e=.returned v/\OwnI w' w.heap.size v zs.reverse/\Below w.heap.size w w':=by
 have HI:=Hd h;clear h
 go_enter func46,ntmps46
 go_wp2
 go_loopw [3,4] (fun v i wr=>∃ k:Nat,k<=zs.length/\i=.int .i64 ((k:Int)-1)/\OwnI wr w.heap.size v ((zs.drop k).reverse)/\w.heap.size<=wr.heap.size/\Below w.heap.size w wr) (fun _ i _=>(intOf i+1).toNat)
 case atStart=>exact⟨zs.length,by omega,rfl,by simpa using(Zi1 w w.heap.size),Nat.le_refl _,Below.refl _ _⟩
 case round =>
  obtain⟨k,hk,rfl,g1,g5,g0⟩:=hrel
  by_cases g6:1<=k
  ·obtain⟨l,rfl⟩:∃ l,k=l+1:=⟨k-1,by omega⟩;have HC:=Hd (HI.out.below g0);obtain⟨b,off,rfl,g7⟩:=HC.out.cells l (by omega);have hx:((l+1:Nat):Int)-1=(l:Int):=by omega
   rw[hx];clear hx;have g9:IntKind.i64.wrap ((l:Int)-1)=(l:Int)-1:=IntWalk.i64_in _ (by omega);have HD:=Hd (Zh5 (zs:=zs) (k:=l) (by omega));have ga:l<zs.length:=by omega
   clear hk g6;go_wp2_with (at_builtin;refine Zbe _ rfl _ _ rfl w.heap.size w _ ((zs.drop (l+1)).reverse) _ rfl rfl rfl rfl (by exact g1) (by simp;omega) g5 g0 ?_;intro v1 w1 g2 g3 g4 g8);go_roundw
   case rel=>exact⟨l,by omega,by go_num,by rw[HD.out,List.reverse_cons];exact g2,g4,g3⟩
   case measure=>simp[intOf]
  ·obtain rfl:k=0:=by omega
   go_wp2
   go_ret;exact⟨_,rfl,by simpa using g1,g0⟩
theorem Zn6 {a:Option Addr}{c:Nat}{zs:List Int}{f t:Nat}{w:World}(h:Zav w a zs)(hlen:zs.length<1000000)(hf:f<zs.length)(ht:t<zs.length) :
 Calls prog 48 #[.slice a zs.length c,.int .i64 (f:Nat),.int .i64 (t:Nat)] w fun e w'=>∃ v,e=.returned v/\OwnI w' w.heap.size v (Ze2 zs (f:Int) (t:Int))/\Below w.heap.size w w':=by
 have gq:=Hd (Zky hf ht);obtain⟨m,hm⟩:∃ m,m=zs.take f++zs.drop (f+1):=⟨_,rfl⟩;rw[<- hm] at gq;have gh:m.length=zs.length-1:=by rw[hm];simp;omega
 have gd:∀ j,at0 m j=if j<f then at0 zs j else at0 zs (j+1):=by
  intro j;rw[hm]
  by_cases h:j<f
  . rw[if_pos h,Zbt (by simp;omega),Zh0 h]
  . rw[if_neg h,Zbz (by simp;omega),Zhz];congr 1;simp;omega
 obtain⟨R,hR⟩:∃ R:Nat->List Int,R=fun i=>m.take (if i<=f then i else i-1):=⟨_,rfl⟩
 have ga:∀ k,k<m.length->m.take (k+1)=m.take k++[at0 m k]:=fun k hk=>by rw[List.take_succ_eq_append_getElem hk,Zax hk]
 obtain⟨L,hL⟩:∃ L,L=zs.length:=⟨_,rfl⟩;have gp:Hid (R 0=[]):=Hd (by rw[hR];simp);have gm:Hid (R L=m):=Hd (by rw[hR];show m.take (if L<=f then L else L-1)=m;rw[if_neg (by omega)];exact List.take_of_length_le (by omega));have go:Hid (R (f+1)=R f):=Hd (by rw[hR];show m.take (if f+1<=f then f+1 else f+1-1)=m.take (if f<=f then f else f-1);rw[if_neg (by omega),if_pos (Nat.le_refl _)];rfl);have gl:Hid (∀ i,i<L->i≠f->R (i+1)=R i++[at0 zs i]):=Hd fun i hi gx=>by
  rw[hR]
  show m.take (if i+1<=f then i+1 else i+1-1)=m.take (if i<=f then i else i-1)++[at0 zs i]
  by_cases e:i<f
  . rw[if_pos (by omega),if_pos (by omega),ga i (by omega),gd,if_pos e]
  . rw[if_neg (by omega),if_neg (by omega),show i+1-1=(i-1)+1 by omega,ga (i-1) (by omega),gd,if_neg (by omega),show i-1+1=i by omega]
 have gn:Hid (∀ i,i<=L->(R i).length<=1000000):=Hd fun i hi=>by rw[hR];show (m.take _).length<=_;rw[List.length_take];omega
 have gk:Hid (∀ k,k<L-1->m.take (k+1)=m.take k++[at0 m k]):=Hd fun k hk=>ga k (by omega)
 have g4:Hid (m.length=L-1):=Hd (by rw[gh,hL]);have HI:=Hd h;have gC:Hid (∀ W,Below w.heap.size w W->∃ b off,a=some ⟨b,off,none⟩/\W.cell? ⟨b,off+f,none⟩=some (.int .i64 (at0 zs f))):=Hd fun W hb=>(h.below hb).cells f hf
 have gr:Hid (∀ W,Below w.heap.size w W->∀ i,i<L->∃ b off,a=some ⟨b,off,none⟩/\W.cell? ⟨b,off+i,none⟩=some (.int .i64 (at0 zs i))):=Hd fun W hb i hi=>(h.below hb).cells i (by omega)
 have gt:Hid (∀ k,k<L-1->(m.drop t).take (k-t+1)=(m.drop t).take (k-t)++[at0 m k]\/k<t):=Hd fun k hk=>by
  by_cases e:k<t
  . exact .inr e
  . left;rw[List.take_succ_eq_append_getElem (by rw[List.length_drop];omega),List.getElem_drop,Zax (show k<m.length by omega)];congr 2;congr 1;omega
 have gM:f<L:=by omega
 have gG:t<L:=by omega
 have gR:L<1000000:=by omega
 rw[<- hL];rw[<- gq.out];clear h hm gh gd hR ga hL hf ht hlen
 go_enter func48,ntmps48
 go_wp2_with fail
 go_loopw [7,8] (fun s7 s8 wr=>∃ (i:Nat) (u:Value),i<=L/\s7=u/\s8=.int .i64 (i:Nat)/\Hid (OwnI wr w.heap.size u (R i))/\Hid (Below w.heap.size w wr)) (fun _ s8 _=>L-(intOf s8).toNat)
 case atStart=>exact⟨0,_,Nat.zero_le _,rfl,rfl,Hd (by rw[gp.out];exact Zi1 w _),Hd (Below.refl _ _)⟩
 case round =>
  obtain⟨i,u,hi,rfl,rfl,HO,HB⟩:=hrel
  by_cases gc:i<L
  ·have gL:(i:Int)<(L:Int):=by omega
   by_cases e:i=f
   ·subst e;have gB:Hid (OwnI wr w.heap.size u7 (R (i+1))):=Hd (by rw[go.out];exact HO.out);go_wp2_with fail;go_roundw
    case rel=>exact⟨i+1,_,gc,rfl,by go_num,gB,HB⟩
    case measure=>simp[intOf];omega
   ·obtain⟨b,off,rfl,hc⟩:=gr.out wr HB.out i gc;have gx:((i:Int) != (f:Int))=true:=by rw[bne_iff_ne];omega
    have hS:=gl.out i gc e;obtain⟨x,hx⟩:∃ x,x=at0 zs i:=⟨_,rfl⟩;rw[<- hx] at hc hS;have HS:=Hd hS;have gg:=gn.out i hi;clear hx hS;go_wp2_with (at_builtin;refine Zbe _ rfl _ _ rfl w.heap.size w u7 (R i) x rfl rfl rfl rfl HO.out (by omega) HB.out.size HB.out ?_;intro v4 w4 g0 g1 g2 g3);have HN:Hid (OwnI w4 w.heap.size v4 (R (i+1))):=Hd (by rw[HS.out];exact g0);have g5:=Hd g1;clear g0 g1 g2 g3;go_roundw
    case rel=>exact⟨i+1,_,gc,rfl,by go_num,HN,g5⟩
    case measure=>simp[intOf];omega
  ·obtain rfl:i=L:=by omega
   obtain⟨wA,gv⟩:∃ W,W=wr:=⟨_,rfl⟩;subst gv;have g9:Hid (OwnI wA w.heap.size u7 m):=Hd (by have:=HO.out;rwa [gm.out] at this);have gf:Hid (∀ W,Below wA.heap.size wA W->∃ cap,∀ k,k<i-1->∃ g,u7=.slice (some ⟨g,0,none⟩) (i-1) cap/\W.cell? ⟨g,k,none⟩=some (.int .i64 (at0 m k))):=Hd fun W hb=>by
    by_cases hp:0<m.length
    . obtain⟨g,cap,e,_,_⟩:=g9.out.shape hp;refine⟨cap,fun k hk=>⟨g,by rw[e,g4.out],?_⟩⟩;have ho:=g9.out.below hb;rw[e] at ho;exact ho.cell k (by rw[g4.out];exact hk)
    . exact⟨0,fun k hk=>by have:=g4.out;omega⟩
   have gj:Hid (∃ a7 c7,u7=.slice a7 (i-1) c7):=Hd (by
    obtain⟨a7,c7,e,_⟩:=g9.out.sliceOf (by have:=g4.out;omega);exact⟨a7,c7,by rw[e,g4.out]⟩)
   obtain⟨a7,c7,rfl⟩:=gj.out;clear HO gr gl go gp gm gn gj;have gy:((i-1:Nat):Int)=(i:Int)-1:=by omega
   obtain⟨M1,ge⟩:∃ q,q=i-1:=⟨_,rfl⟩;rw[<- ge] at gf gk g4 gt ⊢;have gP:t<=M1:=by omega
   have gQ:M1<1000000:=by omega
   have gS:=Hd ge;clear gy ge;go_wp2_with fail
   go_loopw [9,10] (fun s9 s10 wr=>∃ (k:Nat) (u:Value),k<=t/\s9=u/\s10=.int .i64 (k:Nat)/\Hid (OwnI wr wA.heap.size u (m.take k))/\Hid (Below wA.heap.size wA wr)) (fun _ s10 _=>t-(intOf s10).toNat)
   case atStart=>exact⟨0,_,Nat.zero_le _,rfl,rfl,Hd (Zi1 _ _),Hd (Below.refl _ _)⟩
   case round =>
    obtain⟨k,u,hk,rfl,rfl,HO,HB2⟩:=hrel
    by_cases gu:k<t
    ·have gH:(k:Int)<(t:Int):=by omega
     have gi:k<M1:=by omega
     obtain⟨cap,g6⟩:=gf.out wr HB2.out;obtain⟨g,e7,hc⟩:=g6 k gi;injection e7 with e1 e2 e3
     subst e1;have hS:=gk.out k gi;obtain⟨x,hx⟩:∃ x,x=at0 m k:=⟨_,rfl⟩;rw[<- hx] at hc hS;have HS:=Hd hS;have gg:(m.take k).length<=1000000:=by rw[List.length_take];omega
     have gJ:(k:Int)<(M1:Int):=by omega
     clear hx hS g6 e2 e3;go_wp2_with (at_builtin;refine Zbe _ rfl _ _ rfl wA.heap.size wA u9 (m.take k) x rfl rfl rfl rfl HO.out (by omega) HB2.out.size HB2.out ?_;intro v4 w4 g0 g1 g2 g3);have HN:Hid (OwnI w4 wA.heap.size v4 (m.take (k+1))):=Hd (by rw[HS.out];exact g0);have g5:=Hd g1;clear g0 g1 g2 g3;go_roundw
     case rel=>exact⟨k+1,_,gu,rfl,by go_num,HN,g5⟩
     case measure=>simp[intOf];omega
    ·obtain rfl:k=t:=by omega
     obtain⟨b,off,rfl,hc⟩:=gC.out wr (HB.out.trans (HB2.out.mono HB.out.size));obtain⟨x,hx⟩:∃ x,x=at0 zs f:=⟨_,rfl⟩;rw[<- hx] at hc;have gA:=Hd hx;have gg:(m.take k).length<=1000000:=by rw[List.length_take];omega
     have gN:(f:Int)<(i:Int):=by omega
     clear hx;go_upto_region 12 with fail;go_upto_region 13 with (at_builtin;refine Zbe _ rfl _ _ rfl wA.heap.size wA u9 (m.take k) x rfl rfl rfl rfl HO.out (by omega) HB2.out.size HB2.out ?_;intro v4 w4 g0 g1 g2 g3)
     have HN:Hid (OwnI w4 wA.heap.size v4 (m.take k++[x]++(m.drop k).take (k-k))):=Hd (by rw[Nat.sub_self,List.take_zero,List.append_nil];exact g0);have g5:=Hd g1;clear g0 g1 g2 g3 HO hc;go_wp2_with fail
     go_loopw [9,11] (fun s9 s11 wr=>∃ (j:Nat) (u:Value),k<=j/\j<=M1/\s9=u/\s11=.int .i64 (j:Nat)/\Hid (OwnI wr wA.heap.size u (m.take k++[x]++(m.drop k).take (j-k)))/\Hid (Below wA.heap.size wA wr)) (fun _ s11 _=>M1-(intOf s11).toNat)
     case atStart=>exact⟨k,_,Nat.le_refl _,by omega,rfl,rfl,HN,g5⟩
     case round =>
      obtain⟨j,u,gI,hj,rfl,rfl,HO,g7⟩:=hrel
      by_cases g8:j<M1
      ·have gK:(j:Int)<(M1:Int):=by omega
       obtain⟨cap,g6⟩:=gf.out wr g7.out;obtain⟨g,e7,gz⟩:=g6 j g8;injection e7 with e1 e2 e3
       subst e1;have hS:=(gt.out j g8).resolve_right (by omega);obtain⟨y,hy⟩:∃ y,y=at0 m j:=⟨_,rfl⟩;rw[<- hy] at gz hS;have HS:=Hd hS;obtain⟨X,hX⟩:∃ X,X=m.take k++[x]++(m.drop k).take (j-k):=⟨_,rfl⟩;have gO:X.length<=3000000:=by rw[hX];simp only[List.length_append,List.length_take,List.length_singleton,List.length_drop];omega
       have HX:=Hd hX;rw[<- hX] at HO;clear hy hS g6 e2 e3 hX HN g5;go_wp2_with (at_builtin;refine Zbe _ rfl _ _ rfl wA.heap.size wA u9 X y rfl rfl rfl rfl HO.out (by omega) g7.out.size g7.out ?_;intro v4 w4 g0 g1 g2 g3);have HN:Hid (OwnI w4 wA.heap.size v4 (m.take k++[x]++(m.drop k).take (j+1-k))):=Hd (by rw[show j+1-k=j-k+1 by omega,HS.out,<- List.append_assoc,<- HX.out];exact g0);have gF:=Hd g1;clear g0 g1 g2 g3;go_roundw
       case rel=>exact⟨j+1,_,by omega,g8,rfl,by go_num,HN,gF⟩
       case measure=>simp[intOf];omega
      ·obtain rfl:j=M1:=by omega
       have gD:Hid (OwnI wr wA.heap.size u9 (m.take k++[x]++m.drop k)):=Hd (by
        have:=HO.out;have e:(m.drop k).take (j-k)=m.drop k:=List.take_of_length_le (by rw[List.length_drop];have:=g4.out;omega)
        rwa [e] at this)
       have gE:Hid (Below w.heap.size w wr):=Hd (HB.out.trans (g7.out.mono HB.out.size));have gw:=HB.out.size;clear HO g7;go_wp2_with fail;go_ret;exact⟨_,rfl,by rw[<- gA.out];exact gD.out.lower gw,gE.out⟩
open Go.RowKit
open Go.RowKit
end Go.Proofs.YtkidaindpahefaaGreat

namespace Go.Proofs.YtkidaindpahefaaGreat
open Go.Proofs.Tryz
open Go.RowKit Go.Shelf
attribute [local go_sem] Oper.semAt_some
open Go.RowKit
end Go.Proofs.YtkidaindpahefaaGreat

namespace Go.Proofs.YtkidaindpahefaaGreat
open Go.Proofs.Tryz
open Go.RowKit Go.Shelf
attribute [local go_sem] Oper.semAt_some
open Go.RowKit
open Go.RowKit
open Go.RowKit
section
variable {K:Law}{n room:Nat}{w0 w W W' w' wb:World}{mb:Nat}{fs r:List (Int×BF)}{nx:Int}{o0:Own}{ws0:List Ev}{C:Nat->Prop}{B:World->Own->Prop}
theorem FxS.fxO (h:FxS K n room w0 mb ws0 C o0 wb B fs nx W):∃ zs:List Int,zs.length=n/\Zay zs=true/\FxO K n room w0 mb ws0 C o0 wb B (fun l=>l.map Int.ofNat=zs) fs nx W:=by
 obtain⟨o,m,V,h1,h2,h3,h4⟩:=h;have hp:=h3.ok.store.permB;exact⟨m.d.vars.map Int.ofNat,by rw[List.length_map];exact h3.vars,Zdz (Zii hp),o,m,V,h1,h2,h3.withOd rfl,h4⟩
end
theorem Zbi:Zbo fun _ _=>True:=fun _ _ _ _ _ _=>trivial
open Go.RowKit
theorem Zp3:∀ (a b:List Int),a.Pairwise (· <= ·)->b.Pairwise (· <= ·)->a.Perm b->a=b
 | [],b,_,_,h=>(List.nil_perm.1 h).symm
 | x::a,[],_,_,h=>(List.perm_nil.1 h)
 | x::a,y::b,ha,hb,h=>by
   have h1:=List.pairwise_cons.1 ha;have h2:=List.pairwise_cons.1 hb;have e:x=y:=by
    have m1:x∈y::b:=h.mem_iff.1 (List.mem_cons_self ..);have m2:y∈x::a:=h.mem_iff.2 (List.mem_cons_self ..);rcases List.mem_cons.1 m1 with e|m1
    . exact e
    ·rcases List.mem_cons.1 m2 with e|m2
     . exact e.symm
     . have:=h2.1 x m1;have:=h1.1 y m2;omega
   subst e;rw[Zp3 a b h1.2 h2.2 (List.Perm.cons_inv h)]
theorem Zld {zs:List Int}(h:Zbb zs.length zs):zs.Pairwise (· <= ·):=List.pairwise_iff_getElem.2 fun i j hi hj hij=>by
 have:=h i j hij hj
 rwa [Zax hi,Zax hj] at this
theorem Zip {n:Nat}{a b c:List Int}(ha:Zbb n a)(hb:Zbb n b)(h1:a.Perm c)(h2:b.Perm c)(hl:c.length=n):a=b :=
 Zp3 a b (Zld (by rw[h1.length_eq,hl];exact ha)) (Zld (by rw[h2.length_eq,hl];exact hb)) (h1.trans h2.symm)
theorem Zt4 {zs:List Int}{m b b':Nat}(h:Ze6 zs m b)(h':Ze6 zs m b'):b=b':=by
 rcases Nat.lt_trichotomy b b' with e|e|e
 . have:=h'.2.2 b e;have:=h.2.1 b' h'.1;omega
 . exact e
 . have:=h.2.2 b' e;have:=h'.2.1 b h.1;omega
theorem sorted012:Zbb 3 [0,1,2]:=fun p q h1 h2=>by
 rcases(show (p=0/\q=1)\/(p=0/\q=2)\/(p=1/\q=2) by omega) with ⟨e,e'⟩|⟨e,e'⟩|⟨e,e'⟩<;>subst e e'<;>decide
def l22F:BF:=Zed (varF 0) (varF 1) (varF 2)
theorem Zw3:DepF 4 l22F:=fun ρ ρ' h=>by
 show iteB (ρ 0) (ρ 1) (ρ 2)=iteB (ρ' 0) (ρ' 1) (ρ' 2)
 rw[h 0 (by omega),h 1 (by omega),h 2 (by omega)]
theorem Zw4:∀ j,j<6->szC 4 l22F (winZ [1,2,0,3] [0,1,2] 0 ((ordR 3 3 []).getD 0 []))<=szC 4 l22F (winZ [1,2,0,3] [0,1,2] 0 ((ordR 3 3 []).getD j [])):=by decide +kernel
theorem Zw6:szC 4 l22F [0,1,2,3]=3:=by decide +kernel
theorem Zw5:winZ [1,2,0,3] [0,1,2] 0 ((ordR 3 3 []).getD 0 [])=[0,1,2,3]:=by decide +kernel
theorem Zrm:(ordR 3 3 []).length=6:=by decide +kernel
theorem Ztc {n:Nat}{Fs:List BF}{zs vs:List Int}{lv wd k:Nat}(hk:k<(ordR wd wd []).length):at0 (sizes22 n Fs zs vs lv wd) k=((szO n Fs (winZ zs vs lv ((ordR wd wd []).getD k [])):Nat):Int):=by
 rw[Zax (by simpa [sizes22] using hk)];simp only[sizes22,List.getElem_map,List.getD,List.getElem?_eq_getElem hk,Option.getD_some]
theorem Ycz {vs:List Int}{b:Nat}(h1:vs.Perm ([1,2,0,3].drop 0 |>.take 3))(h2:Zbb 3 vs)(h3:Ze6 (sizes22 4 [l22F] [1,2,0,3] vs 0 3) (ordR 3 3 []).length b):vs=[0,1,2]/\b=0:=by
 have hv:vs=[0,1,2]:=Zip (n:=3) (c:=[1,2,0]) h2 sorted012 h1 (by decide) rfl;subst hv;refine⟨rfl,?_⟩
 by_cases hb:b=0
 . exact hb
 . have q1:=h3.2.2 0 (by omega);have q2:=h3.1;rw[Zrm] at q2;rw[Ztc (by rw[Zrm];exact q2),Ztc (by rw[Zrm];omega),Ybw Zw3] at q1;have:=Zw4 b q2;omega
section
variable {K:Law}{n room:Nat}{w0 w W W' w' wb:World}{mb:Nat}{fs r:List (Int×BF)}{nx:Int}{o0:Own}{ws0:List Ev}{C:Nat->Prop}{B:World->Own->Prop}
theorem FxS.ite22 (hK:Zc8 K)(hB:Zbo B)(h:FxS K n room w0 mb ws0 C o0 wb B fs nx W){k1 k2 k3:Int}{F1 F2 F3:BF}(h1:(k1,F1)∈fs)(h2:(k2,F2)∈fs)(h3:(k3,F3)∈fs)(hn:nx<=549755813888)(hr:(fs.length+1)*2^n<=room) :
 Calls prog 94 #[.pointer (some ⟨mb,0,none⟩),.int .i64 k1,.int .i64 k2,.int .i64 k3] W fun x w'=>x=.returned (.tuple #[.int .i64 nx,.int .i64 0])/\FxS K n room w0 mb ws0 C o0 wb B (fs++[(nx,Zed F1 F2 F3)]) (nx+1) w' :=
 h.new hB fun o m V hw hs=>(Ydz hK hs hw hn hr h1 h2 h3).mono fun x w' ⟨q1,o',m',V',q2,q3,q4⟩=>⟨q1,o',m',V',q2,q3,q4⟩
end
def f22L:List (Int×BF):=two++[(2,varF 0)]++[(3,varF 1)]++[(4,varF 2)]++[(5,l22F)]
section
variable {K:Law}{w W wb:World}{mb:Nat}{o0:Own}
theorem lit22 (W:World)(zs:List Int)(hl:zs.length<=1000):SliceIs (W.alloc (.cells (Za0 zs).toArray 3)) (.slice (some ⟨W.heap.size,0,none⟩) zs.length zs.length) zs:=⟨_,_,rfl,Zgx W zs (by omega),fun e=>by cases e⟩
theorem Yax (h:FxS K 4 20000 w mb [] NoB o0 wb (fun _ _=>True) f22L 6 W) :
 Calls prog 44 #[.pointer (some ⟨mb,0,none⟩),.slice (some ⟨W.heap.size,0,none⟩) 4 4] (W.alloc (.cells #[.int .i64 1,.int .i64 2,.int .i64 0,.int .i64 3] 3)) fun e w'=>e=.returned (.int .i64 0)/\FxO K 4 20000 w mb [] NoB o0 wb (fun _ _=>True) (fun l=>l.map Int.ofNat=[1,2,0,3]) f22L 6 w':=by
 obtain⟨zs,g1,g0,hf⟩:=h.fxO;have hm:=hf.mine Zbi (Zae W _) (lit22 W [1,2,0,3] (by simp)) (fun k hk=>by cases hk;exact⟨Nat.le_refl _,by simp⟩);have:=Zqd (Zbi.and Zbn.keep) hm (by omega) (by simp[f22L,two]) (fun W o hh=>hh.2.slice) (by decide +kernel) rfl;exact this.mono fun e w' hh=>⟨hh.1,hh.2.withB fun _ _ _ _ _=>trivial⟩
theorem Zy6 (h:FxO K 4 20000 w mb [] NoB o0 wb (fun _ _=>True) (fun l=>l.map Int.ofNat=[1,2,0,3]) f22L 6 W) :
 Calls prog 41 #[.pointer (some ⟨mb,0,none⟩),.int .i64 0,.int .i64 3,.slice (some ⟨W.heap.size,0,none⟩) 1 1] (W.alloc (.cells #[.int .i64 5] 3)) fun e w'=>e=.returned (.tuple #[.int .i64 3,.int .i64 0])/\FxO K 4 20000 w mb [] NoB o0 wb (fun _ _=>True) (fun l=>l.map Int.ofNat=[0,1,2,3]) f22L 6 w':=by
 have hm:=h.mineB (B2:=fun W' o'=>True/\ArgB w (some ⟨W.heap.size,0,none⟩) [5] W' o') Zbi (Zae W (.cells #[.int .i64 5] 3)) fun o g0 _=>⟨trivial,Zgx W [5] (by simp),fun x hx=>by cases hx;exact⟨by simp,h.sizes.2,g0.none (Nat.le_refl _)⟩⟩
 have:=Zjr (n:=4) (fs:=f22L) (nx:=6) (c:=1) (a:=some ⟨W.heap.size,0,none⟩) (ks:=[5]) (Fs:=[l22F]) (Zbi.and ArgB.keep) (zs:=[1,2,0,3]) (by decide +kernel) rfl (lv:=0) (wd:=3) (by omega) (by omega) (by omega) (by omega) (by simp[f22L,two]) (fun _ _ hh=>hh.2) rfl (fun i hi=>by
  obtain rfl:i=0:=by have:i<1:=hi;omega
  simp[f22L]) (by simp) hm
 refine Calls.mono this ?_;rintro e w' ⟨vs,b,h1,h2,h3,rfl,h4⟩;obtain⟨rfl,rfl⟩:=Ycz h1 h2 h3;rw[Zw5] at h4 ⊢;rw[Ybw Zw3,Zw6];exact⟨rfl,h4.withB fun _ _ _ _ _=>trivial⟩
end
theorem Zfr {K:Law}(hK:Zc8 K)(w:World):Calls prog 40 #[] w fun x w'=>x=.returned (.bool true)/\Below w.heap.size w w':=by
 have g3:=Hd (Zsv (K:=K) 4 20000 w (by omega) (by omega) (by omega));have HK:=Hd hK;clear hK
 go_enter func40,ntmps40
 go_wp2_with fail;refine g3.out.mono ?_;rintro x w1 ⟨mb,rfl,o,m,V,g6,g5,_,_⟩;have H1:Hid (FxS K 4 20000 w mb [] NoB o w1 (fun _ _=>True) two 2 w1):=Hd ⟨o,m,V,ChgX.of_below (Below.refl _ _) o NoB,by rw[g5];exact List.suffix_refl _,g6,trivial⟩;have ga:=Hd (H1.out.var (v:=0) HK.out Zbi (by omega) (by simp[two]) (by omega));clear g6 g5 g3;go_wp2_with fail;refine ga.out.mono ?_;rintro x w2 ⟨rfl,h2⟩;have g9:=Hd (h2.var (v:=1) HK.out Zbi (by omega) (by simp[two]) (by omega));clear h2 ga H1;go_wp2_with fail;refine g9.out.mono ?_;rintro x w3 ⟨rfl,h3⟩;have g8:=Hd (h3.var (v:=2) HK.out Zbi (by omega) (by simp[two]) (by omega));clear h3 g9;go_wp2_with fail;refine g8.out.mono ?_;rintro x w4 ⟨rfl,h4⟩;have gf:=Hd (h4.ite22 HK.out Zbi (k1:=2) (k2:=3) (k3:=4) (F1:=varF 0) (F2:=varF 1) (F3:=varF 2) (by simp) (by simp) (by simp) (by omega) (by simp[two]));clear h4 g8;go_wp2_with fail;refine gf.out.mono ?_;rintro x w5 ⟨rfl,h5⟩;have gc:=Hd (Yax (K:=K) (W:=w5) h5);clear h5 gf;go_wp2_with fail;refine gc.out.mono ?_;rintro x w6 ⟨rfl,h6⟩;have g7:=Hd (Zy6 h6);clear h6 gc;go_wp2_with fail;refine g7.out.mono ?_;rintro x w7 ⟨rfl,h7⟩;have HO:=Hd (h7.order Zbi);clear h7 g7;go_wp2_with fail;refine HO.out.mono ?_;rintro x w8 ⟨u,l,rfl,-,hP,-,-,g1,-⟩;have gg:SliceIs w8 u [0,1,2,3]:=by
  rw[<- hP];exact g1.know (Q:=fun W=>SliceIs W u (l.map Int.ofNat)) fun W o hh=>hh.2.slice
 obtain⟨a,c,rfl,hz,-⟩:=gg;obtain⟨T,hT⟩:∃ T,T=w8.alloc (.cells #[.int .i64 0,.int .i64 1,.int .i64 2,.int .i64 3] 3):=⟨_,rfl⟩;have g0:=Zkf a (some ⟨w8.heap.size,0,none⟩) c 4 [0,1,2,3] [0,1,2,3] T (by rw[hT];exact hz.below (Zae _ _)) (by rw[hT];exact Zgx w8 [0,1,2,3] (by simp));rw[decide_eq_true rfl] at g0;have gd:=Hd g0;have g2:Below w8.heap.size w8 T:=by rw[hT];exact Zae _ _
 have g4:Hid (∀ q,FxO K 4 20000 w mb [] NoB o w1 (fun W o=>True/\Zbn (.slice a 4 c) (l.map Int.ofNat) W o) (fun l'=>l'=l) f22L 6 (T.drewN q)):=Hd fun q=>g1.below (Zbi.and Zbn.keep) (g2.trans ((Zag T q).mono g2.size))
 have HT:=Hd hT.symm;clear g1 hz hP g0 hT HO g2;go_wp2_with fail;rw[HT.out];refine gd.out.mono ?_;rintro x w9 ⟨rfl,q,rfl⟩;have ge:=Hd (Zms (f:=0) (t:=4) (Zbi.and Zbn.keep) (g4.out q) (by omega));have HB:=Hd (g4.out q).below0;clear gd HT g4;go_wp2_with fail;refine ge.out.mono ?_;rintro x w10 ⟨rfl,rfl⟩;clear ge;go_wp2_with fail;go_ret;exact⟨rfl,HB.out⟩
open Go.RowKit
section
theorem Zx5 (i n:Nat)(hi:i<=1048576)(hn:n<=16)(w:World):Calls prog 126 #[.int .u64 i,.int .i64 n] w fun x w'=>∃ v,x=.returned v/\OwnB w' w.heap.size v (Zdk i n)/\Below w.heap.size w w':=by
 have HH:Hid (∀ W,Calls prog 176 #[.int .i64 (n:Nat),.int .i64 0,.int .i64 64] W fun x w'=>x=.returned (.int .i64 (n:Nat))/\W=w'):=Hd fun W=>Zt6 n (by omega) W
 go_enter func126,ntmps126
 go_wp2_with fail
 go_loopw [0,5,6] (fun s0 s5 s6 wr=>∃ j q:Nat,j<=n/\q<=1048576/\s6=.int .i64 j/\s0=.int .u64 q/\Hid (i/2^j=q)/\OwnB wr w.heap.size s5 (Zdk i j)/\w.heap.size<=wr.heap.size/\Below w.heap.size w wr) (fun _ _ s6 _=>n-(intOf s6).toNat)
 case atStart=>exact⟨0,i,Nat.zero_le _,hi,rfl,rfl,Hd (by simp),Zfu _ w _ (Nat.le_refl _),by simp,Zae w _⟩
 case round =>
  obtain⟨j,q,hj,hq,rfl,rfl,HQ,g0,g5,g1⟩:=hrel
  by_cases g7:j<n
  ·have HB:Hid (((q:Int).tmod 2 == 1)=bitB i j):=by
    refine Hd ?_
    show ((q:Int).tmod 2 == 1)=bitB i j
    unfold bitB;rw[HQ.out];have e1:Int.tmod (q:Int) 2=((q%2:Nat):Int):=by rw[Int.tmod_eq_emod_of_nonneg (by omega)];rfl
    rw[e1]
    by_cases h:q%2=1
    . rw[h];rfl
    ·have:((q%2:Nat):Int)≠1:=by omega
     rw[beq_eq_false_iff_ne.2 this,decide_eq_false h]
   have g2:=Hd g0;have g3:=Hd g1;clear g0 g1;go_wp2_with fail;refine(HH.out _).mono ?_;rintro x w2 ⟨rfl,rfl⟩;go_wp2_with (at_builtin;refine Zcr Zh6 _ rfl _ _ rfl w.heap.size _ (Zbu (Zdk i j)) _ rfl rfl rfl rfl rfl (by exact g2.out) (by simp[Zbu,Zeu];omega) g5 ?_;intro v1 w1 g4 e1 e2 e3 e4 g6);go_roundw
   case rel =>
    refine⟨j+1,q/2,by omega,by omega,by go_num,rfl,Hd ?_,?_,by omega,Zh1 g3.out g2.out e1 e2 e3 e4 g6 g5⟩
    . rw[Nat.pow_succ,<- Nat.div_div_eq_div_mul,HQ.out]
    ·rw[Zl8];have e5:Zbu (Zdk i j++[bitB i j])=Zbu (Zdk i j)++[.bool (bitB i j)]:=by simp[Zbu]
     unfold OwnB;rw[e5,<- HB.out];exact g4
   case measure=>simp[intOf];omega
  ·have he:j=n:=by omega
   subst he;have g2:=Hd g0;have g3:=Hd g1;clear g0 g1;go_wp2_with fail;refine(HH.out _).mono ?_;rintro x w2 ⟨rfl,rfl⟩;go_wp2_with fail;go_ret;exact⟨_,rfl,g2.out,g3.out⟩
end
open Go.RowKit
section
variable {K:Law}{n:Nat}{Od:List Nat->Prop}{room:Nat}{w0 w:World}{mb:Nat}{fs:List (Int×BF)}{nx:Int}{o:Own}{m:ManD}{V:Nat->BF}
theorem Ydx (h:SatE K n Od room w0 mb fs nx w o m V)(hn:n<=16){k:Int}{F:BF}(hk:(k,F)∈fs){v:Value}{bs:List Bool}(hbs:Zc7 w v bs) :
 Calls prog 72 #[.pointer (some ⟨mb,0,none⟩),.int .i64 k,v] w fun x w'=>∃ b,x=.returned (.bool b)/\(b=true↔bs=tabB n F)/\Below w.heap.size w w':=by
 have HV:=Hd h.vars_any;have HC:=Hd (Zqc false n hn w);have gl:Hid (∀ W,Below w.heap.size w W->∀ u cs,Zc7 W u cs->Calls prog 125 #[.pointer (some ⟨mb,0,none⟩),.int .i64 k,u] W fun x w'=>x=.returned (.tuple #[.bool (F (Zcn cs)),.int .i64 0])/\Below W.heap.size W w') :=
  Hd fun W hb u cs hu=>(h.below hb).eval hk hu
 have gk:Hid (∀ i,i<=1048576->∀ W,Calls prog 126 #[.int .u64 (i:Nat),.int .i64 n] W fun x w'=>∃ v,x=.returned v/\OwnB w' W.heap.size v (Zdk i n)/\Below W.heap.size W w'):=Hd fun i hi W=>Zx5 i n hi hn W
 obtain⟨a,c,rfl,gd,gh⟩:=hbs;have gm:=Hd gd;have gp:=gd.len;have hp:=Zik (show n<=20 by omega);obtain⟨L,hL⟩:∃ L,L=2^n:=⟨_,rfl⟩;have HL:=Hd hL;rw[<- hL] at hp HC;clear h hL gd gh
 go_enter func72,ntmps72
 go_wp2_with fail;refine HV.out.mono ?_;rintro x w' ⟨rfl,rfl⟩;go_wp2_with fail;refine HC.out.mono ?_;rintro x w1 ⟨g,rfl,_,g5⟩
 by_cases g1:bs.length=L
 ·have gi:((bs.length:Int) != (L:Int))=false:=by rw[g1];simp
  have gf:=Hd g5;clear g5 HC HV;go_wp2_with fail
  go_loopw [8,21] (fun s8 s21 wr=>∃ j:Nat,j<=L/\s21=.int .i64 j/\Below w.heap.size w wr/\Hid (∀ q,q<j->bs.getD q false=F (Zcn (Zdk q n)))) (fun _ s21 _=>L-(intOf s21).toNat)
  case atStart=>exact⟨0,Nat.zero_le _,rfl,gf.out,Hd fun q hq=>by omega⟩
  case round =>
   obtain⟨j,hj,rfl,g2,HQ⟩:=hrel
   by_cases gj:j<L
   ·have g0:=Hd g2;clear g2;have go:=Zzf j (by omega);have gn:(j:Int)<bs.length:=by omega
    obtain⟨b1,of1,rfl,c1⟩:=(gm.out.below g0.out).cells j (by omega);go_wp2_with fail;refine(gk.out j (by omega) _).mono ?_;rintro x w3 ⟨u,rfl,g9,gc⟩;have ge:=Hd gc;have c3:=(gc.cell (p:=⟨b1,of1+j,none⟩) (Zab c1)).trans c1;have HU:=Hd (g9.boolsIs (by rw[Zeu];omega));clear g9 gc c1;go_wp2_with fail;refine(gl.out _ (g0.out.trans (ge.out.mono g0.out.size)) _ _ HU.out).mono ?_;rintro x w4 ⟨rfl,ga⟩;have c4:=(ga.cell (p:=⟨b1,of1+j,none⟩) (Zab c3)).trans c3;have g7:=Hd (g0.out.trans ((ge.out.trans (ga.mono ge.out.size)).mono g0.out.size));clear ga c3;obtain⟨y1,g4⟩:∃ y,y=bs.getD j false:=⟨_,rfl⟩;obtain⟨y2,g3⟩:∃ y,y=F (Zcn (Zdk j n)):=⟨_,rfl⟩;rw[<- g4] at c4;rw[<- g3];have gg:Hid (y2=y1->∀ q,q<j+1->bs.getD q false=F (Zcn (Zdk q n))):=Hd fun g8 q hq=>by
     rcases Nat.lt_or_ge q j with h|h
     . exact HQ.out q h
     ·obtain rfl:q=j:=by omega
      rw[<- g4,<- g3,g8]
    have g6:Hid (y2≠y1->bs≠tabB n F):=Hd fun g8 e=>g8 (by rw[g4,g3,e,Zj6 (by rw[<- HL.out];exact gj)])
    clear g4 g3;cases y1<;>cases y2
    ·go_wp2_with fail;go_roundw
     case rel=>exact⟨j+1,by omega,by go_num,g7.out,Hd (gg.out (by simp))⟩
     case measure=>simp[intOf];omega
    . go_wp2_with fail;go_ret;exact⟨false,rfl,by simpa using g6.out (by simp),g7.out⟩
    . go_wp2_with fail;go_ret;exact⟨false,rfl,by simpa using g6.out (by simp),g7.out⟩
    ·go_wp2_with fail;go_roundw
     case rel=>exact⟨j+1,by omega,by go_num,g7.out,Hd (gg.out (by simp))⟩
     case measure=>simp[intOf];omega
   ·have he:j=L:=by omega
    have g0:=Hd g2;have HE:Hid (bs=tabB n F):=Hd (Ydg (by rw[g1,HL.out]) (fun i hi=>HQ.out i (by rw[he,HL.out];exact hi)));clear g2;go_wp2_with fail;go_ret;exact⟨true,rfl,by simpa using HE.out,g0.out⟩
 ·have gi:((bs.length:Int) != (L:Int))=true:=by simp;omega
  have gf:=Hd g5;have g6:Hid (bs≠tabB n F):=Hd fun e=>g1 (by rw[e,Zhx,HL.out])
  clear g5 HC HV g1;go_wp2_with fail;go_ret;exact⟨false,rfl,by simpa using g6.out,gf.out⟩
end
section
variable {K:Law}{n:Nat}{Od:List Nat->Prop}{room:Nat}{w0 w:World}{mb:Nat}{fs:List (Int×BF)}{nx:Int}{o:Own}{m:ManD}{V:Nat->BF}
theorem Yb8 (h:SatE K n Od room w0 mb fs nx w o m V)(hn:n<=16){vl vx:Value}{hs:List (Int×BF)}{P:Nat->Prop}(hr:LawR P n fs w vl vx hs) :
 Calls prog 28 #[.pointer (some ⟨mb,0,none⟩),vl,vx] w fun x w'=>x=.returned (.bool true)/\Below w.heap.size w w':=by
 obtain⟨al,cl,rfl,hl⟩:=hr.l;obtain⟨ax,cx,rfl,hx⟩:=hr.x;have HL:=Hd hl;have HX:=Hd hx;have ga:=hr.small;have g8:Hid (∀ W,Below w.heap.size w W->∀ j v,∀ hj:j<hs.length,Zc7 W v (tabB n hs[j].2)->Calls prog 72 #[.pointer (some ⟨mb,0,none⟩),.int .i64 hs[j].1,v] W fun x w'=>x=.returned (.bool true)/\Below W.heap.size W w'):=by
  refine Hd fun W hb j v hj hv=>(Ydx (h.below hb) hn (hr.sub _ (List.getElem_mem hj)) hv).mono ?_
  rintro x w' ⟨b,rfl,g6,g5⟩;rw[g6.2 rfl];exact⟨rfl,g5⟩
 clear h hr hl hx
 go_enter func28,ntmps28
 go_wp2_with fail
 go_loopw [7,10] (fun s7 s10 wr=>∃ j:Nat,j<=hs.length/\s10=.int .i64 j/\Below w.heap.size w wr) (fun _ s10 _=>hs.length-(intOf s10).toNat)
 case atStart=>exact⟨0,Nat.zero_le _,rfl,Below.refl _ _⟩
 case round =>
  obtain⟨j,hj,rfl,g1⟩:=hrel
  by_cases g2:j<hs.length
  ·obtain⟨b1,of1,rfl,c1⟩:=(HL.out.below g1).cells j (by simpa using g2);obtain⟨b2,of2,v2,rfl,c2,g3,_⟩:=(HX.out.below g1).cells j (by simpa using g2);have e1:at0 (hs.map Prod.fst) j=hs[j].1:=by rw[Zax (by simpa using g2)];simp
   have e2:(hs.map fun p=>tabB n p.2).getD j []=tabB n hs[j].2:=by simp[List.getD,g2]
   rw[e1] at c1;rw[e2] at g3;have g7:=Hd g3;have g0:=Hd g1;obtain⟨k1,g4⟩:∃ k1,k1=hs[j].1:=⟨_,rfl⟩;have HI:Hid (∀ W,Below w.heap.size w W->∀ v,Zc7 W v (tabB n hs[j].2)->Calls prog 72 #[.pointer (some ⟨mb,0,none⟩),.int .i64 k1,v] W fun x w'=>x=.returned (.bool true)/\Below W.heap.size W w'):=by
    rw[g4];exact Hd fun W hb v hv=>g8.out W hb j v g2 hv
   rw[<- g4] at c1;clear g3 g1 e1 e2 g4;have gc:(j:Int)<(hs.length:Int):=by omega
   go_upto_region 4 with fail;refine Zan (fun W:World=>W.cell? ⟨b1,of1+j,none⟩=some (.int .i64 k1)/\W.cell? ⟨b2,of2+j,none⟩=some v2/\Hid (Below w.heap.size w W)) false 11 [(0,false),(1,false),(2,false),(3,false),(4,false),(5,false),(6,false),(7,false),(8,false),(9,true),(10,false)] (by kernel_rfl) (by kernel_rfl) ⟨c1,c2,Hd (g0.out.trans ((Zag wr 1).mono g0.out.size))⟩ ?_;simp only[planned,Zdd]
   iterate 9
    refine Zaj rfl ?_;apply Exists.intro;refine⟨fun w' hw=>?_,?_⟩
    . obtain⟨h1,h2,_⟩:=hw;go_simp;rfl
    simp only[Zai]
   refine Zz2 (v:=.bool true) rfl (by go_simp) ((HI.out wr.drew (g0.out.trans ((Zag wr 1).mono g0.out.size)) v2 (g7.out.below (Zag wr 1))).mono ?_) ?_
   . rintro x w' ⟨rfl,hb⟩;exact⟨rfl,(hb.cell (p:=⟨b1,of1+j,none⟩) (Zab (w:=wr.drew) c1)).trans c1,(hb.cell (p:=⟨b2,of2+j,none⟩) (Zab (w:=wr.drew) c2)).trans c2,Hd (g0.out.trans (((Zag wr 1).trans (hb.mono (Zag wr 1).size)).mono g0.out.size))⟩
   rintro w' ⟨_,_,g9⟩;simp only[Zai]
   iterate 1
    refine Zaj rfl ?_;apply Exists.intro;refine⟨fun w' hw=>?_,?_⟩
    . obtain⟨h1,h2,_⟩:=hw;go_simp;rfl
    simp only[Zai]
   refine Zdm ?_;clear g0 c1 c2;go_wp2_with fail;go_roundw
   case rel=>exact⟨j+1,by omega,by go_num,g9.out⟩
   case measure=>simp[intOf];omega
  . have g0:=Hd g1;clear g1;go_wp2_with fail;go_ret;exact⟨rfl,g0.out⟩
end
open Go.RowKit
open Go.RowKit
end Go.Proofs.YtkidaindpahefaaGreat
