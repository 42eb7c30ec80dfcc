/- Several texts in one file: contracts of the program's functions and what follows from them. -/
import Derived.Test.YtnphndlbfeagbaaGreatB8
import Derived.Deep.Slices
import Derived.ChangeArms
import Derived.WideShapes
import Derived.ChangeSlices
set_option linter.all false
set_option maxRecDepth 100000
set_option maxHeartbeats 8000000
namespace Go.Proofs.YtnphndlbfeagbaaGreat
open Go.Proofs.Tryz
open Go.RowKit
variable {B:Wd->Own->Prop}{C:Nat->Prop}{G:BF}{K:Law}{Od:List Nat->Prop}{P:Program}{V V':Nat->BF}{W W' W1 w w' w0 w1 wb:Wd}{args lop:Array Value}{av:Option Addr}{b base0 bl c cv f fuel g i j k kb mb most n off q room x y:Nat}{bs:List Bool}{cs xs:List Value}{fs fs' hs:List (Int×BF)}{held:Bool}{kf nx nx':Int}{lv u v vl vx:Value}{m m':ManD}{o' o0 o1:Own}{spare:Nat->Bool}{t:TypeId}{vs:List Nat}{ws0:List Ev}{zs:List Int}
def intL (vs:List Nat):List Int:=vs.map λv:Nat=>(v:Int)
def Cw (vs:List Nat):(intL vs).length=vs.length:=by unfold intL;rw[XT]
def OZ (h:i<vs.length):at0 (intL vs) i=((vs.getD i 0:Nat):Int):=by
 unfold at0 intL;simp[List.getD,h]
def WG (vs:List Nat)(k:Nat):(intL vs).drop k=intL (vs.drop k):=by unfold intL;rw[List.map_drop]
section
variable {o:Own}{Inv:Nat->Nat->Wd->Own->Prop}{cg:Nat}{ds:List Bool}
def Kz (h:SatE As n (λ_=>True) room w0 mb fs nx w o m V)(H:m.waits <:+ ws0)(A:B2 fs)(hf:(kf,G)∈fs){a:Option Addr}(hz:Aj w a (intL vs))(D:vs.length<=c)(M:intL vs≠[]->∀x,a=some x->o x.block=none/\¬ C x.block)
 (hc:∀g,w.heap.size<=g->ChoC (Inv g) C cg lop ds (numI G vs ds) g) (hi:∀g,w.heap.size<=g->Inv g 0 w o) (hds:ds.length=vs.length) (hC:∀k,C k->w0.heap.size<=k/\k<w.heap.size) (B:vs.Nodup) (f:∀v∈vs,v<n) (S:Br vs G) (hL:vs.length<=64) (hn:nx+200<549755813888) (hr:(fs.length+1)*2^n+(2^n+(2^n-1)*2^n)<=room):
 Cl 48 #[Pt mb,Iv kf,.slice a vs.length c,.func (.func cg) #[] lop] w λx w'=>∃g nx' base,x=.returned (.tuple #[.slice (some (Av g)) vs.length vs.length,Iv 0])/\w.heap.size<=g/\nx<=nx'/\nx'<=nx+200/\FxS As n room w0 mb ws0 C o w (DesB (Inv g) base a (intL vs) g ds vs.length) fs nx' w':=by
 have hn64:n<=64:=by have:=h.ok.store.small;rw[h.vars]at this;exact this
 obtain⟨L,g3⟩:=Ex vs.length;obtain⟨B0,ga⟩:=Ex (λW o=>(∀g,w.heap.size<=g->Inv g 0 W o)/\Aj W a (intL vs)/\(intL vs≠[]->∀x,a=some x->o x.block=none):Wd->Own->Prop)
 have gl:AX B0:=by
  rw[ga];rintro W o1 W' o2 ⟨h1,h2,h3⟩ hx
  exact⟨λg Z=>(hc g Z).keep 0 _ _ _ _ (h1 g Z) hx,h2.sameN λg1 x gb gF=>hx.block _ gF (h3 g1 x gb) (λe=>e),λg1 x gb=>by
   subst gb;exact hx.none' (h2.blk g1) (h3 g1 x rfl)⟩
 have gB:FxS As n room w0 mb ws0 C o w B0 fs nx w:=⟨o,m,V,ChgX.of_below (X7 _ _) o C,H,h,by rw[ga];exact⟨hi,hz,λg1 x hx=>(M g1 x hx).1⟩⟩;have gE:=Hd (gB.copy Cf gl (by omega) hf);obtain⟨St,g9⟩:=Ex (λg base i p nx' W=>FxS As n room w0 mb ws0 C o w (DesB (Inv g) base a (intL vs) g (CU ds L i) i) (fs++[(p,stG G vs ds i)]) nx' W/\nx<=nx'/\nx'<=nx+1+2*(i:Int):Nat->Nat->Nat->Int->Int->Wd->Prop)
 have gn:Hq (∀w1 w2 g,FxS As n room w0 mb ws0 C o w B0 (fs++[(nx,G)]) (nx+1) w1->Bw w1 w2->OwnC 4 w2 w1.heap.size (.slice (some (Av g)) L L) (List.replicate L (.bool false))->w1.heap.size<=g->w.heap.size<=g/\St g w1.heap.size 0 nx (nx+1) w2):=by
  rw[g9];refine Hd λw1 w2 g h1 h2 h3 E=>?_
  obtain⟨o1,m1,V1,q1,q2,q3,q4⟩:=h1;have gK:o1 g=none:=q3.lt.none E;have gu:w.heap.size<=g:=Xz q1.size E;have hx:=ChgX.of_below h2 o1 NoB;have q5:=gl _ _ _ _ q4 hx;rw[ga]at q5;refine⟨gu,⟨o1,m1,V1,q1.trans hx NoB.sub,q2,q3.below h2,q5.1 g gu,q5.2.1,q5.2.2,?_,gK⟩,by omega,by omega⟩;rw[Ky (by omega) (X0 _)];unfold CU;unfold OwnB;simpa [AA]using h3
 have gC:∀g,w.heap.size<=g->¬ C g:=λg Z e=>by have:=(hC g e).2;omega
 have h5:w0.heap.size<=w.heap.size:=h.chg.size;have gt:∀g,w.heap.size<=g->intL vs≠[]->∀x,a=some x->x.block≠g:=λg Z g1 x hx e=>by
  subst hx;have:=hz.blk g1;omega
 have go:Hq (∀g base i p nx' W,St g base i p nx' W->w.heap.size<=g->i<L->∃b off,a=some (Aw b off)/\W.cell? (Aw b (off+i))=some (Iv ((vs.getD i 0:Nat):Int)) /\
  Cl 73 #[Pt mb,Iv p,.slice (some (Av W.heap.size)) 1 1] (W.alloc (.cells #[Iv ((vs.getD i 0:Nat):Int),.bool false] 58)) λx w1=>x=.returned (.tuple #[Iv nx',Iv 0]) /\
   ∀s,Bw w1 s->∀off2 c2,(c-(i+1)=0/\off2=off/\c2=0)\/(c-(i+1)≠0/\off2=off+(i+1)/\c2=c-(i+1))->Cl 24 #[Pt mb,Iv nx',.slice (some (Aw b off2)) (L-(i+1)) c2] s λx w2=>∃v,x=.returned (.tuple #[v,Iv 0]) /\
    Calls prog cg (#[Iv (i:Nat),v]++lop) w2 λx Q=>x=.returned (.bool (ds.getD i false))/\Q.frozen? (Aw g i)=false/\(∃b0,Q.cell? (Aw g i)=some (.bool b0)) /\
     ∀J,J=Q.setCell (Aw g i) (.bool (ds.getD i false))->J.cell? (Aw g i)=some (.bool (ds.getD i false)) /\
      (ds.getD i false=false->∀T,T=J.alloc (.cells #[Iv p] 3)->Cl 74 #[Pt mb,.slice (some (Av J.heap.size)) 1 1] T λx O=>x=.returned (Iv 0)/\St g base (i+1) nx' (nx'+1) O) /\
      (ds.getD i false=true->∀T,T=J.alloc (.cells #[Iv nx'] 3)->Cl 74 #[Pt mb,.slice (some (Av J.heap.size)) 1 1] T λx O=>x=.returned (Iv 0) /\
       Cl 73 #[Pt mb,Iv p,.slice (some (Av O.heap.size)) 1 1] (O.alloc (.cells #[Iv ((vs.getD i 0:Nat):Int),.bool true] 58)) λx w6=>x=.returned (.tuple #[Iv (nx'+1),Iv 0]) /\
        ∀T,T=w6.alloc (.cells #[Iv p] 3)->Cl 74 #[Pt mb,.slice (some (Av w6.heap.size)) 1 1] T λx w7=>x=.returned (Iv 0)/\St g base (i+1) (nx'+1) (nx'+2) w7)):=by
  rw[g9];refine Hd λg base i p nx' W hs Z gi=>?_
  obtain⟨hs,gJ,gI⟩:=hs;have gk:=hc g Z;have u:∀j bs,AX (DesB (Inv g) base a (intL vs) g bs j):=λj bs=>DesB.keepB gk j
  have g8:i<vs.length:=by omega
  have gH:vs.getD i 0∈vs:=by simp[List.getD,g8]
  have gc:=f _ gH;have gw:∀j bs X nx'' W,FxS As n room w0 mb ws0 C o w (DesB (Inv g) base a (intL vs) g bs j) X nx'' W->∃b off,a=some (Aw b off)/\W.cell? (Aw b (off+i))=some (Iv ((vs.getD i 0:Nat):Int)):=λj bs X nx'' W hh=>by
   obtain⟨_,_,_,_,_,_,I⟩:=hh;obtain⟨b,off,e,g0⟩:=I.z.cells i (by rw[Cw];exact g8);rw[OZ g8]at g0;exact⟨b,off,e,g0⟩
  obtain⟨b,off,ea,g0⟩:=gw _ _ _ _ _ hs;refine⟨b,off,ea,g0,?_⟩;have g7:(fs++[(p,stG G vs ds i)]).length=fs.length+1:=by simp
  refine(hs.cof1 (u _ _) hn64 (kf:=p) (F:=stG G vs ds i) (by simp) (v:=vs.getD i 0) (y:=false) gc (by omega) (by rw[g7];exact hr) rfl).mono ?_;rintro x w1 ⟨rfl,h1⟩;refine⟨rfl,λs hb1 off2 c2 gh=>?_⟩;have gm:=h1.below (u _ _) hb1;obtain⟨b',off',ea',gR⟩:=gw _ _ _ _ _ gm;obtain⟨rfl,rfl⟩:b'=b/\off'=off:=by rw[ea]at ea';cases ea';exact⟨rfl,rfl⟩
  have gf:=OY ds S i (by omega);rw[FT g8]at gf;have gg:=gf.cof false;have gP:(vs.drop (i+1)).Nodup:=B.sublist (List.drop_sublist _ _);have gx:∀v∈vs.drop (i+1),v<n:=λv hv=>f v (List.mem_of_mem_drop hv)
  have gG:Aj s (some (Aw b' off2)) (intL (vs.drop (i+1))):=by
   obtain⟨_,_,_,_,_,_,I⟩:=gm;have hh:=I.z;rw[ea]at hh;have:=hh.from (lo:=i+1) (c:=c) (by rw[Cw];exact D)
   rw[WG]at this;rcases gh with ⟨e1,e2,_⟩|⟨e1,e2,_⟩
   . rw[Xx e1]at this;rw[e2];exact this
   . rw[Xu e1]at this;rw[e2];exact this
  have gS:cntE n (cofF (stG G vs ds i) (vs.getD i 0) false) (intL (vs.drop (i+1)))=0:=VX gx gg;have gT:L-(i+1)=(intL (vs.drop (i+1))).length:=by rw[Cw,aS,g3]
  rw[gT];refine(gm.askN (R:=λe v=>e=.returned (.tuple #[v,Iv 0])) (x:=numI G vs ds i) (u _ _) (λo2 m2 V2 g5=>?_)).mono ?_
  . have gj:=OH g5 (k:=nx') (G:=cofF (stG G vs ds i) (vs.getD i 0) false) (by simp) (c:=c2) gG;rw[gS]at gj;refine gj.mono ?_;rintro x w2 ⟨v,t,U,r3⟩;refine⟨v,t,?_,r3⟩;rw[Xx rfl]at U;have e:=OI (g5.dep (k:=nx') (F:=cofF (stG G vs ds i) (vs.getD i 0) false) (by simp)) gP gx gg;unfold numI;rw[<-e];exact U
  ·rintro x w2 ⟨v,rfl,hv,h2⟩;refine⟨v,rfl,?_⟩;refine(h2.cho gk (by omega) hv (λk hk=>(hC k hk).1) (gC g Z) (λg1 x hx=>(M g1 x hx).2)).mono ?_;rintro x Q ⟨rfl,h3⟩;have gZ:(CU ds L i).length=L:=Ky (by omega) (by omega);have gz:Q.frozen? (Aw g i)=false/\∃b0,Q.cell? (Aw g i)=some (.bool b0):=by
    obtain⟨_,_,_,_,_,_,I⟩:=h3;exact⟨I.l.frozen i,_,I.l.cellB i (by omega)⟩
   refine⟨rfl,gz.1,gz.2,?_⟩;rintro J rfl;have E:=h3.setL gk (i:=i) (y:=ds.getD i false) Z (by omega) (gt g Z);rw[WA (by omega) gi]at E;refine⟨?_,λI T N=>?_,λI T N=>?_⟩
   . obtain⟨_,_,_,_,_,_,gQ⟩:=E;rw[gQ.l.cellB i (by rw[Ky (by omega) (by omega)];exact gi)];congr 2;rw[WB (by omega) gi]
   ·have g2:=FxS.drop1 Cf (u _ _) A (k:=p) (F:=stG G vs ds i) (r:=[(nx',cofF (stG G vs ds i) (vs.getD i 0) false)]) (by rw[XF]at E;exact E) (by omega) N;refine g2.mono ?_;rintro x O ⟨t,U⟩;refine⟨t,?_,by omega,by omega⟩
    show FxS _ _ _ _ _ _ _ _ _ _ (fs++[(nx',cofF (stG G vs ds i) (vs.getD i 0) (ds.getD i false))]) _ _
    rw[I];exact U
   ·have g2:=FxS.drop1 Cf (u _ _) (A.app [(p,stG G vs ds i)]) (k:=nx') (F:=cofF (stG G vs ds i) (vs.getD i 0) false) (r:=[]) E (by omega) N;refine g2.mono ?_;rintro x O ⟨t,U⟩;rw[Y5]at U;refine⟨t,(U.cof1 (u _ _) hn64 (kf:=p) (F:=stG G vs ds i) (by simp) (v:=vs.getD i 0) (y:=true) gc (by omega) (by rw[g7];exact hr) rfl).mono ?_⟩;rintro x w6 ⟨rfl,h6⟩;refine⟨rfl,λT N=>?_⟩;have g2:=FxS.drop1 Cf (u _ _) A (k:=p) (F:=stG G vs ds i) (r:=[(nx'+1,cofF (stG G vs ds i) (vs.getD i 0) true)]) (by rw[XF]at h6;exact h6) (by omega) N;refine g2.mono ?_;rintro x w7 ⟨t,U⟩;refine⟨t,?_,by omega,by omega⟩
    show FxS _ _ _ _ _ _ _ _ _ _ (fs++[(nx'+1,cofF (stG G vs ds i) (vs.getD i 0) (ds.getD i false))]) _ _
    rw[I,show nx'+2=nx'+1+1 by omega];exact U
 obtain⟨P,hP⟩:=Ex (λx w'=>∃g nx' base,x=.returned (.tuple #[.slice (some (Av g)) vs.length vs.length,Iv 0])/\w.heap.size<=g/\nx<=nx'/\nx'<=nx+200/\FxS As n room w0 mb ws0 C o w (DesB (Inv g) base a (intL vs) g ds vs.length) fs nx' w':Ending->Wd->Prop)
 have g4:Hq (∀g base p nx' W,St g base L p nx' W->w.heap.size<=g->∀T,T=W.alloc (.cells #[Iv p] 3)->Cl 74 #[Pt mb,.slice (some (Av W.heap.size)) 1 1] T λx O=>x=.returned (Iv 0)/\P (.returned (.tuple #[.slice (some (Av g)) L L,Iv 0])) O):=by
  rw[g9,hP];refine Hd λg base p nx' W hs Z T N=>?_
  obtain⟨hs,gJ,gI⟩:=hs;have u:∀j bs,AX (DesB (Inv g) base a (intL vs) g bs j):=λj bs=>DesB.keepB (hc g Z) j
  refine(FxS.drop1 Cf (u _ _) A (r:=[]) hs (by omega) N).mono ?_;rintro x O ⟨t,U⟩;rw[Y5,WC (by omega)]at U;refine⟨t,g,nx',base,by rw[g3],Z,by omega,by omega,?_⟩;rw[<-g3];exact U
 have eg:=(hc w.heap.size (Xs _)).enters;rw[<-hP,<-g3];have h0:L<=c:=by omega
 have gU:L<=64:=by omega
 clear hP g9 ga gB hc hi hC B f S hz M hf h H hds gl gt gC hr g3 D
 go_enter func48,ntmps48
 go_wp2_with fail;refine gE.o.mono ?_;rintro x w1 ⟨rfl,h1⟩;have H1:=Hd h1;clear h1 gE;go_wp2_with (at_make;refine C7 C6 rfl _ _ rfl w1.heap.size w1 _ L rfl rfl rfl (by omega) (Xs _) (X7 _ _) ?_;intro g w2 g6 gA g5 gL gO gN;clear gN);have HS:=Hd (gn.o w1 w2 g H1.o gA g6 gO);clear H1 gn g6 gA g5 gL;go_wp2
 go_loopw [8,9,10,13,14,15,16,17,32] (λ_ _ s10 _ _ _ _ _ K wr=>∃(i:Nat) (p nx':Int),i<=L/\K=Iv (i:Int)/\s10=Iv p/\Hq (St g w1.heap.size i p nx' wr)) (λ_ _ _ _ _ _ _ _ K _=>L-(intOf K).toNat)
 case atStart=>exact⟨0,nx,nx+1,X0 _,rfl,rfl,Hd HS.o.2⟩
 case round=>
  obtain⟨i,p,nx',hi,rfl,rfl,HI⟩:=hrel;have HG:=Hd HS.o.1;clear HS
  by_cases f:i<L
  ·have gM:(i:Int)<(L:Int):=by omega
   obtain⟨b,off,ea,g0,Y⟩:=go.o g w1.heap.size i p nx' wr HI.o HG.o f;subst ea;obtain⟨vi,gv⟩:=Ex (((vs.getD i 0:Nat):Int):Int);rw[<-gv]at g0 Y;have HQ:=Hd Y;clear Y gv go g4 HI;go_wp2_with fail;refine HQ.o.mono ?_;rintro x wA ⟨rfl,Y⟩;have gr:=Hd Y;obtain⟨d,I⟩:=Ex (ds.getD i false);rw[<-I]at gr;clear Y HQ g0;go_wp2_with (refine WE rfl _ _ rfl rfl rfl (i:=i+1) (by omega) (by omega) (by omega) ?_;intro off2 c2 gh);refine(gr.o _ (X7 _ _) _ _ gh).mono ?_;rintro x wB ⟨v,rfl,Y⟩;have gD:=Hd Y;clear Y gr;go_wp2_with fail;refine gD.o.mono ?_;rintro x wC ⟨rfl,gV,⟨b0,gY⟩,Y⟩;obtain⟨gX,ge,gd⟩:=Y _ rfl;rw[World.size_setCell]at ge gd;have gq:=Hd ge;have gp:=Hd gd;clear Y ge gd gD I;cases d with
   | false=>
     have q:=Hd (gq.o rfl _ rfl);clear gq gp;go_wp2_with fail;refine q.o.mono ?_;rintro x O ⟨rfl,H⟩;have HN:=Hd H;clear H q;go_wp2;go_roundw
     case rel=>
      exact⟨i+1,nx',nx'+1,by omega,by go_num,rfl,HN⟩
     case measure=>simp[intOf];omega
   | true=>
     have q:=Hd (gp.o rfl _ rfl);clear gq gp;go_wp2_with fail;refine q.o.mono ?_;rintro x O ⟨rfl,gy⟩;have HC:=Hd gy;clear gy q;go_wp2_with fail;refine HC.o.mono ?_;rintro x w6 ⟨rfl,g2⟩;have q:=Hd (g2 _ rfl);clear g2 HC;go_wp2_with fail;refine q.o.mono ?_;rintro x w7 ⟨rfl,H⟩;have HN:=Hd H;clear H q;go_wp2;go_roundw
     case rel=>exact⟨i+1,nx'+1,nx'+2,by omega,by go_num,rfl,HN⟩
     case measure=>simp[intOf];omega
  ·obtain rfl:i=L:=by omega
   have gM:¬ (i:Int)<(i:Int):=by omega
   have q:=Hd (g4.o g w1.heap.size p nx' wr HI.o HG.o _ rfl);clear go g4 HI;go_wp2_with fail;refine q.o.mono ?_;rintro x O ⟨rfl,hp⟩;have HF:=Hd hp;clear hp q;go_wp2_with fail
   first|exact HF.o|exact X2 (Yh rfl _ _ _) rfl HF.o
end
def rkI (G:BF)(vs:List Nat)(ds:List Bool)(k:Nat):Nat->Nat
 | 0=>k
 | i+1=>if ds.getD i false then rkI G vs ds k i-numI G vs ds i else rkI G vs ds k i
def ahI (G:BF)(vs:List Nat)(ds:List Bool):Nat->Nat
 | 0=>0
 | i+1=>if ds.getD i false then ahI G vs ds i+numI G vs ds i else ahI G vs ds i
section
variable {ds:List Bool}
abbrev aO:=@Option.map_eq_some_iff
def K0 (h:(allL vs G)[k]?=some ds):∀i,i<=vs.length->(allL (vs.drop i) (stG G vs ds i))[rkI G vs ds k i]?=some (ds.drop i)
 | 0,_=>h
 | i+1,hi=>by
   have H:=K0 h i (by omega);rw[FT (by omega)]at H;have X:allL (vs.getD i 0::vs.drop (i+1)) (stG G vs ds i)=(allL (vs.drop (i+1)) (cofF (stG G vs ds i) (vs.getD i 0) false)).map (false:: ·)++(allL (vs.drop (i+1)) (cofF (stG G vs ds i) (vs.getD i 0) true)).map (true:: ·):=rfl;have U:∀b t,ds.drop i=b::t->ds.getD i false=b/\ds.drop (i+1)=t:=λb t e=>by
    have h0:(ds.drop i)[0]?=some b:=by rw[e];rfl
    rw[Zu]at h0;refine⟨by rw[List.getD];rw[Zh]at h0;rw[h0];rfl,?_⟩;rw[<-List.drop_drop,e];rfl
   rw[X]at H
   show(allL (vs.drop (i+1)) (cofF (stG G vs ds i) (vs.getD i 0) (ds.getD i false)))[if ds.getD i false then rkI G vs ds k i-numI G vs ds i else rkI G vs ds k i]?=_
   unfold numI;rcases X9 (rkI G vs ds k i) (allL (vs.drop (i+1)) (cofF (stG G vs ds i) (vs.getD i 0) false)).length with g0|g1
   . rw[XN (by rw[XT];exact g0),Yq]at H;obtain⟨t,e1,e2⟩:=aO.1 H;obtain⟨O,I⟩:=U _ _ e2.symm;rw[O,I,Xu (by simp)];exact e1
   . rw[Ya (by rw[XT];exact g1),Yq,XT]at H;obtain⟨t,e1,e2⟩:=aO.1 H;obtain⟨O,I⟩:=U _ _ e2.symm;rw[O,I,Xx rfl];exact e1
def K2 (h:(allL vs G)[k]?=some ds)(hi:i<vs.length):ds.getD i false=decide (numI G vs ds i<=rkI G vs ds k i):=by
 have H:=K0 h i (by omega);rw[FT (by omega)]at H;have O:allL (vs.getD i 0::vs.drop (i+1)) (stG G vs ds i)=(allL (vs.drop (i+1)) (cofF (stG G vs ds i) (vs.getD i 0) false)).map (false:: ·)++(allL (vs.drop (i+1)) (cofF (stG G vs ds i) (vs.getD i 0) true)).map (true:: ·):=rfl;have I:∀b t,ds.drop i=b::t->ds.getD i false=b:=λb t e=>by
  have h0:(ds.drop i)[0]?=some b:=by rw[e];rfl
  rw[Zu]at h0;rw[List.getD];rw[Zh]at h0;rw[h0];rfl
 rw[O]at H;unfold numI;rcases X9 (rkI G vs ds k i) (allL (vs.drop (i+1)) (cofF (stG G vs ds i) (vs.getD i 0) false)).length with g1|g0
 . rw[XN (by rw[XT];exact g1),Yq]at H;obtain⟨t,e1,e2⟩:=aO.1 H;rw[I _ _ e2.symm,XW (by omega)]
 . rw[Ya (by rw[XT];exact g0),Yq,XT]at H;obtain⟨t,e1,e2⟩:=aO.1 H;rw[I _ _ e2.symm,XQ g0]
def Pa:∀i,rkI G vs ds 0 i=0
 | 0=>rfl
 | i+1=>by
   show(if ds.getD i false then rkI G vs ds 0 i-numI G vs ds i else rkI G vs ds 0 i)=0
   rw[Pa i];split<;>simp
def K3 (h:(allL vs G)[k]?=some ds):∀i,i<=vs.length->ahI G vs ds i+rkI G vs ds k i=k
 | 0,_=>by show 0+k=k;omega
 | i+1,hi=>by
   have I:=K3 h i (by omega);have H:=K2 h (show i<vs.length by omega)
   show(if ds.getD i false then ahI G vs ds i+numI G vs ds i else ahI G vs ds i)+(if ds.getD i false then rkI G vs ds k i-numI G vs ds i else rkI G vs ds k i)=k
   cases hb:ds.getD i false with
   | true=>
     rw[hb]at H;have:=YG H.symm;rw[Xx rfl,Xx rfl];omega
   | false=>simpa using I
def WH (h:(allL vs G)[k]?=some ds):ahI G vs ds vs.length=k:=by
 have h1:=K3 h vs.length (Xs _);have h2:=K0 h vs.length (Xs _);rw[YZ (Xs _)]at h2;have H:allL [] (stG G vs ds vs.length)=if stG G vs ds vs.length (λ_=>false)then [[]]else []:=rfl
 rw[H]at h2;have:rkI G vs ds k vs.length=0:=by
  split at h2
  ·rcases ZC (rkI G vs ds k vs.length)with e|e
   . exact e
   . rw[XC (by show 1<=_;omega)]at h2;cases h2
  . simp at h2
 omega
def D6 (h:(allL vs G)[k]?=some ds):ds.length=vs.length:=((Fh vs G ds).1 (List.mem_of_getElem? h)).1
end
def WI (h:∀z∈zs,0<=z/\z<(n:Int)):zs=intL (zs.map Int.toNat):=by
 unfold intL;rw[Y9];refine(List.map_id _).symm.trans (YQ λz H=>?_);have:=h z H
 show z=((z.toNat:Nat):Int)
 omega
def WJ (h:(intL vs).Nodup):vs.Nodup:=by
 unfold intL at h;exact(YT.1 h).imp λg0 e=>g0 (by rw[e])
def Ed (O:DepF n G)(h:chkE n G zs=0):∃vs,zs=intL vs/\vs.Nodup/\(∀v∈vs,v<n)/\Br vs G/\vs.length<=n/\cntV n G zs=(allL vs G).length:=by
 unfold chkE at h
 by_cases hl:AY n (noB zs)=0
 ·rw[Xx hl]at h;have H:∀z∈zs,0<=z/\z<(n:Int):=λz U=>Yo λI=>by
   rw[FS U I]at hl;cases hl
  rw[Ec H]at hl;have g4:zs.Nodup:=Yo λI=>by rw[Xu I]at hl;cases hl
  obtain⟨vs,g3⟩:=Ex (zs.map Int.toNat);have e:=WI H;rw[<-g3]at e;have g0:vs.Nodup:=WJ (by rw[<-e];exact g4);have g1:∀v∈vs,v<n:=λv X=>by
   have:=H (v:Int) (by rw[e];exact X6.2 ⟨v,X,rfl⟩);omega
  have g2:Br vs G:=VY O (by rw[e]at h;exact h);refine⟨vs,e,g0,g1,g2,CQ n vs g0 g1,?_⟩;rw[e];exact OI O g0 g1 g2
 . rw[Xu hl]at h;exact absurd h hl
def SpP (n room:Nat)(w0:Wd)(mb:Nat)(fs:List (Int×BF))(nx:Int)(ws0:List Ev)(o:Own)(w:Wd)(Φ:Wd->Own->Prop)(w':Wd):Prop:=
 ∃nx' o' m' V',nx<=nx'/\nx'<=nx+200/\ChgX NoB o o' w w'/\m'.waits <:+ ws0/\SatE As n (λ_=>True) room w0 mb fs nx' w' o' m' V'/\Φ w' o'
def K4:(digD x).length=0↔x=0:=by
 constructor
 ·intro h;refine Yo λhx=>?_
  rw[Do hx]at h;simp at h
 . rintro rfl;rw[BY];rfl
def WL (h:NatV w v x)(z:Int):Cl 79 #[Iv z,v] w (Sm (.bool (decide (x=0))) w):=by
 obtain⟨a,c,rfl,_,_,_⟩:=h;have hl:=K4 (x:=x);obtain⟨l,g0⟩:=Ex ((digD x).length);rw[<-g0]at hl⊢
 have H:Hq (((l:Int) == 0)=decide (x=0)):=Hd (by
  by_cases e:x=0
  . rw[XQ e,ZO];have:=hl.2 e;omega
  . rw[XW e,YR];intro c;exact e (hl.1 (by omega)))
 clear g0 hl
 go_enter func79,ntmps79
 go_wp2;go_ret;exact⟨by rw[<-H.o];rfl,rfl⟩
def Pb (args:Array Value)(w:Wd):(callFunc 79 args).run prog w=.ok (.enter 79 args) w:=YF func79 (by kernel_rfl) rfl args w
def WM {ds:List Bool}(h:(allL vs G)[0]?=some ds)(g:Nat):ChoC (λ_ _ _=>True) (λ_=>False) 79 #[] ds (numI G vs ds) g:=
 ⟨Pb,λ_ _ _ _ _ _=>trivial,λ_ _ _ _ _ _ _=>trivial,λ_ _ _ _ _ e=>e.elim,λj H W o v _ _ _ I _=>(WL I _).mono λx w' hx=>by
  obtain⟨rfl,rfl⟩:=hx;rw[D6 h]at H;have e:decide (numI G vs ds j=0)=ds.getD j false:=by
   rw[K2 h H,Pa];exact ZT.2 Nat.le_zero.symm
  exact⟨by rw[e],Wr.refl _ _,trivial⟩⟩
section
variable {o:Own}
def Pc (n:Nat)(G:BF)(zs:List Int)(e:Int)(v:Value)(W:Wd)(o:Own):Prop:=
 (chkE n G zs≠0/\e=chkE n G zs/\v=.slice none 0 0)\/(chkE n G zs=0/\∃vs,zs=intL vs/\((allL vs G=[]/\e=20/\v=.slice none 0 0)\/(∃ds,(allL vs G)[0]?=some ds/\e=0/\Ay W v ds/\∀q,v.ownBlock=some q->o q=none)))
def SpP.ask {Φ:Wd->Own->Prop}(H:m.waits <:+ ws0)(h:AskN As n (λ_=>True) room w0 mb fs nx m o w w1 v)(I:∀o',Φ w1 o'):SpP n room w0 mb fs nx ws0 o w Φ w1:=by
 obtain⟨o',m',V',h1,h2,_,O,_⟩:=h;exact⟨nx,o',m',V',ZY _,by omega,h1,by rw[h2];exact H,O,I o'⟩
def Pd (h:SatE As n (λ_=>True) room w0 mb fs nx w o m V)(I:m.waits <:+ ws0)(f:B2 fs)(Z:(kf,G)∈fs){a:Option Addr}(i:Aj w a zs)(y:zs.length<=c)(X:zs≠[]->∀x,a=some x->o x.block=none)(L:nx+200<549755813888)(t:(fs.length+1)*2^n+(2^n+(2^n-1)*2^n)<=room):
 Cl 29 #[Pt mb,Iv kf,.slice a zs.length c] w λx w'=>∃v e,x=.returned (.tuple #[v,Iv e])/\SpP n room w0 mb fs nx ws0 o w (Pc n G zs e v) w':=by
 have hn64:n<=64:=by have:=h.ok.store.small;rw[h.vars]at this;exact this
 have HCK:=Hd (Ip h Z (c:=c) i);obtain⟨P,d⟩:=Ex (λx w'=>∃v e,x=.returned (.tuple #[v,Iv e])/\SpP n room w0 mb fs nx ws0 o w (Pc n G zs e v) w':Ending->Wd->Prop)
 have g4:Hq (∀w1 v,AskN As n (λ_=>True) room w0 mb fs nx m o w w1 v->chkE n G zs≠0->P (.returned (.tuple #[.slice none 0 0,Iv (chkE n G zs)])) w1):=by
  rw[d];exact Hd λw1 v b H=>⟨_,_,rfl,SpP.ask I b λo'=>.inl ⟨H,rfl,rfl⟩⟩
 have g2:Hq (∀w1 v,AskN As n (λ_=>True) room w0 mb fs nx m o w w1 v->chkE n G zs=0->cntV n G zs=0->P (.returned (.tuple #[.slice none 0 0,Iv 20])) w1):=by
  rw[d];refine Hd λw1 v b H z=>?_
  obtain⟨vs,e1,_,_,_,_,e2⟩:=Ed (h.dep Z) H;rw[z]at e2;exact⟨_,_,rfl,SpP.ask I b λo'=>.inr ⟨H,vs,e1,.inl ⟨Zl.1 e2.symm,rfl,rfl⟩⟩⟩
 have g3:Hq (∀w1 v,AskN As n (λ_=>True) room w0 mb fs nx m o w w1 v->chkE n G zs=0->cntV n G zs≠0->Cl 48 #[Pt mb,Iv kf,.slice a zs.length c,.func (.func 79) #[] #[]] w1 λx w'=>∃v' r,x=.returned (.tuple #[v',r])/\P (.returned (.tuple #[v',r])) w'):=by
  rw[d];refine Hd λw1 v b H z=>?_
  obtain⟨vs,e1,ge,N,S,gk,e2⟩:=Ed (h.dep Z) H;obtain⟨ds,g5⟩:∃ds,(allL vs G)[0]?=some ds:=⟨(allL vs G)[0]'(by omega),Xy _⟩;obtain⟨o1,m1,V1,j,J,_,F,_⟩:=b;have gc:Aj w1 a (intL vs):=by
   rw[<-e1];exact i.sameN λg6 x hx T=>j.block _ T (X g6 x hx) (λe=>e)
  have Q:zs.length=vs.length:=by rw[e1,Cw]
  rw[Q]
  refine(Kz (Inv:=λ_ _ _ _=>True) (C:=λ_=>False) (ds:=ds) (lop:=#[]) F (by rw[J];exact I) f Z gc (by omega) (λg6 x hx=>⟨by
   subst hx;exact j.none' (i.blk (by rw[e1];exact g6)) (X (by rw[e1];exact g6) x rfl),λe=>e⟩) (λg _=>WM g5 g) (λ_ _=>trivial) (D6 g5) (λ_ e=>e.elim) ge N S (by omega) L t).mono ?_
  rintro x w' ⟨g,nx',base,rfl,_,R,gf,o2,m2,V2,U,D,B,s⟩;refine⟨_,_,rfl,_,_,rfl,nx',o2,m2,V2,R,gf,j.trans (ChgX.mk U.os U.tape U.output U.size (λk hk M _=>U.block k hk M (λe=>e)) U.ext U.new) NoB.sub,D,B,.inr ⟨H,vs,e1,.inr ⟨ds,g5,rfl,?_,λq K=>by cases K;exact s.lo⟩⟩⟩;have:=s.l.boolsIs (by rw[D6 g5];omega);rw[D6 g5]at this;exact this
 rw[<-d];clear d h Z i X I f t;have W:=Pb
 go_enter func29,ntmps29
 go_wp2_with fail;refine HCK.o.mono ?_;rintro x w1 ⟨v,rfl,p,g8⟩;have g0:=Hd g8;clear g8 HCK;obtain⟨E,Y⟩:=Ex (chkE n G zs)
 by_cases H:E=0
 ·have g1:chkE n G zs=0:=by rw[<-Y];exact H
  rw[Xx g1]at p;obtain⟨av,cv,rfl,_,_,_⟩:=p
  by_cases h0:cntV n G zs=0
  ·have O:=Hd (g2.o w1 _ g0.o g1 h0);rw[g1];have g7:(digD (cntV n G zs)).length=0:=K4.2 h0;rw[g7];clear g2 g4 g3 g0 Y H g1 h0 g7;go_wp2_with fail
   first|exact O.o|exact X2 (Yh rfl _ _ _) rfl O.o
  ·have A:=Hd (g3.o w1 _ g0.o g1 h0);rw[g1];obtain⟨l,g9⟩:=Ex ((digD (cntV n G zs)).length);have g7:¬ (l:Int)=0:=λe=>h0 (K4.1 (by omega))
   rw[<-g9];clear g2 g4 g3 g0 Y H g1 h0 g9;go_wp2_with fail;refine A.o.mono ?_;rintro x w' ⟨v',r,rfl,u⟩;have O:=Hd u;clear u A;go_wp2_with fail
   first|exact O.o|exact X2 (Yh rfl _ _ _) rfl O.o
 ·have O:=Hd (g4.o w1 v g0.o (by rw[<-Y];exact H));rw[<-Y]at O⊢;clear g2 g4 g3 g0 Y p;go_wp2_with fail
  first|exact O.o|exact X2 (Yh rfl _ _ _) rfl O.o
end
def NatV.blk (h:NatV w v x)(hx:x≠0)(H:v.ownBlock=some q):q<w.heap.size:=by
 obtain⟨a,c,rfl,_,_,hu⟩:=h;have hl:0<(digD x).length:=by rw[Do hx];simp
 obtain⟨b,off,rfl,I⟩:=hu.cells 0 hl;have:b=q:=Yr H;rw[<-this];exact Ad I
def WN {v1 v2:Value}(h1:NatV w v1 x)(h2:NatV w v2 y)(H:x<y):
 Cl 77 #[v1,v2] w (Bl (.tuple #[.slice none 0 0,.bool false]) w):=by
 have I:=Hd (Kj h1 h2);have g0:cmpZ x y= -1:=by unfold cmpZ;rw[Xx H]
 rw[g0]at I;clear h1 h2 H g0
 go_enter func77,ntmps77
 go_wp2_with fail;refine I.o.mono ?_;rintro e w1 ⟨rfl,g1⟩;have g2:=Hd g1;clear I g1;go_wp2
 go_ret2
 exact⟨rfl,g2.o⟩
structure NatB (kb g x:Nat)(W:Wd)(o:Own):Prop where
 ex:∃v,W.heap[kb]?=some (.cells #[v] 40 (0,0))/\NatV W v x/\(x≠0->∀q,v.ownBlock=some q->o q=none/\q≠g/\q≠kb)
 no:o kb=none
def NatV.sameN (h:NatV w v x)(hk:x≠0->∀q,v.ownBlock=some q->q<w.heap.size->w'.heap[q]?=w.heap[q]?):NatV w' v x:=by
 by_cases hx:x=0
 . subst hx;obtain⟨a,c,h1,h2,h3,H⟩:=h;refine⟨a,c,h1,h2,h3,⟨H.len,H.ok,λk hk=>?_⟩⟩;rw[BY]at hk;cases hk
 . exact h.keepO λq e=>hk hx q e (h.blk hx e)
def NatB.keepB:AX (NatB kb g x):=λW o W' o' h H=>by
 obtain⟨⟨v,h1,h2,h3⟩,I⟩:=h;have hl:kb<W.heap.size:=(Xt.1 h1).1;exact⟨⟨v,(H.block kb hl I (λe=>e)).trans h1,h2.sameN λhx q e O=>H.block q O (h3 hx q e).1 (λe=>e),λhx q e=>⟨H.none' (h2.blk hx e) (h3 hx q e).1,(h3 hx q e).2⟩⟩,H.none' hl I⟩
def NatB.set {o:Own}(H:kb≠g)(h:NatB kb g x W o)(i:Nat)(y:Value):NatB kb g x (W.setCell (Aw g i) y) o:=by
 obtain⟨⟨v,h1,h2,h3⟩,U⟩:=h;have hl:kb<W.heap.size:=(Xt.1 h1).1;have I:Wr (· = g) W (W.setCell (Aw g i) y):=(Wr.refl (· = g) W).setCell (p:=Aw g i) (.inl rfl) y;exact⟨⟨v,(I.keep kb hl H).trans h1,h2.sameN λhx q e O=>I.keep q O (h3 hx q e).2.1,h3⟩,U⟩
def NatB.put {o:Own}(h:NatB kb g x W o)(hu:NatV W u y)(H:y≠0->∀q,u.ownBlock=some q->o q=none/\q≠g/\q≠kb):NatB kb g y (W.setCell (Av kb) u) o:=by
 obtain⟨⟨v,h1,h2,h3⟩,O⟩:=h;have I:Wr (· = kb) W (W.setCell (Av kb) u):=(Wr.refl (· = kb) W).setCell (p:=Av kb) (.inl rfl) u;exact⟨⟨u,A2 h1 u,hu.sameN λhx q e g0=>I.keep q g0 (H hx q e).2.2,H⟩,O⟩
def NatB.below {o:Own}(h:NatB kb g x W o)(hb:Bw W W'):NatB kb g x W' o:=NatB.keepB _ _ _ _ h (ChgX.of_below hb o NoB)
def Pe (args:Array Value)(w:Wd):(callFunc 76 args).run prog w=.ok (.enter 76 args) w:=YF func76 (by kernel_rfl) rfl args w
def WO {N:Nat}{o:Own}(h:NatB kb g k W o)(U:NatV W v N)(H:Ac o W)(b:g<W.heap.size)(z:Int):
 Cl 76 #[Iv z,v,Pt kb] W λx w'=>x=.returned (.bool (decide (N<=k)))/\Wr (· = kb) W w'/\NatB kb g (if N<=k then k-N else k) w' o:=by
 obtain⟨u,g2,hu,a⟩:=h.ex;have X:=cell1 g2;have g1:kb<W.heap.size:=Ad X
 by_cases g0:N<=k
 ·have I:=Hd (Ox hu U g0);rw[XQ g0,Xx g0];have O:Hq (∀w1 v',Bw W w1->NatV w1 v' (k-N)->(∀q,v'.ownBlock=some q->W.heap.size<=q)->Wr (· = kb) W (w1.setCell (Av kb) v')/\NatB kb g (k-N) (w1.setCell (Av kb) v') o/\w1.cell? (Av kb)=some u/\w1.frozen? (Av kb)=false):=Hd λw1 v' hb h1 h2=>
   ⟨(Wr.of_below hb (· = kb)).setCell (p:=Av kb) (.inl rfl) v',(h.below hb).put h1 λ_ q e=>⟨H.none (h2 q e),by have:=h2 q e;omega,by have:=h2 q e;omega⟩,(hb.cell (p:=Av kb) g1).trans X,by have:=(hb.block kb g1).trans g2;simp[World.frozen?,this]⟩
  clear h hu U a H g0 b g2
  go_enter func76,ntmps76
  go_wp2_with fail;refine I.o.mono ?_;rintro e w1 ⟨⟨v',rfl,h1,h2⟩,hb⟩;obtain⟨Z,Y,j,i⟩:=O.o w1 v' hb h1 h2;have d:=Hd Z;have c:=Hd Y;obtain⟨av,cv,rfl,_,_,_⟩:=h1;clear hb h2 O I Z Y X g1;go_wp2;go_ret;exact⟨rfl,d.o,c.o⟩
 ·have I:=Hd (WN hu U (by omega));rw[XW g0,Xu g0];have O:Hq (∀w1,Bw W w1->Wr (· = kb) W w1/\NatB kb g k w1 o):=Hd λw1 hb=>⟨Wr.of_below hb _,h.below hb⟩
  clear h hu U a H g0 b g2
  go_enter func76,ntmps76
  go_wp2_with fail;refine I.o.mono ?_;rintro e w1 ⟨rfl,hb⟩;have f:=Hd (O.o w1 hb);clear hb O I X g1;go_wp2;go_ret;exact⟨rfl,f.o⟩
def WP {ds:List Bool}(h:(allL vs G)[k]?=some ds)(I:kb≠g):ChoC (λj W o=>NatB kb g (rkI G vs ds k j) W o) (· = kb) 76 #[Pt kb] ds (numI G vs ds) g:=
 ⟨Pe,λ_ _ _ i y hi=>hi.set I i _,λ_=>NatB.keepB,λ_ _ _ hi q e=>by subst e;exact hi.no,λj U W o v O Z hi Y _=>(WO hi Y O Z _).mono λx w' hx=>by
  obtain⟨rfl,X,H⟩:=hx;rw[D6 h]at U;have e:=K2 h U;refine⟨by rw[e],X,?_⟩
  show NatB kb g (if ds.getD j false then rkI G vs ds k j-numI G vs ds j else rkI G vs ds k j) w' o
  by_cases c:numI G vs ds j<=rkI G vs ds k j
  . rw[Xx c]at H;rw[e,Xx (by simp[c])];exact H
  . rw[Xu c]at H;rw[e,Xu (by simp[c])];exact H⟩
section
variable {o:Own}
def Pf (n:Nat)(G:BF)(zs:List Int)(k:Nat)(e:Int)(v:Value)(W:Wd)(o:Own):Prop:=
 (chkE n G zs≠0/\e=chkE n G zs/\v=.slice none 0 0)\/(chkE n G zs=0/\∃vs,zs=intL vs/\(((allL vs G).length<=k/\e=2/\v=.slice none 0 0)\/(∃ds,(allL vs G)[k]?=some ds/\e=0/\Ay W v ds/\∀q,v.ownBlock=some q->o q=none)))
def FxS.sp {K:Law}{Φ:Wd->Own->Prop}(h:FxS As n room w0 mb ws0 C o1 W1 B fs nx' w')(I:nx<=nx')(H:nx'<=nx+200)(h1:ChgX NoB o o1 w W1)(a:∀k,C k->w.heap.size<=k)(Z:∀o',B w' o'->Φ w' o'):SpP n room w0 mb fs nx ws0 o w Φ w':=by
 obtain⟨o2,m2,V2,Y,X,U,O⟩:=h;exact⟨nx',o2,m2,V2,I,H,h1.trans Y (λk hk e=>by have:=a k e;omega),X,U,Z o2 O⟩
def Pg (h:SatE As n (λ_=>True) room w0 mb fs nx w o m V)(b:m.waits <:+ ws0)(r:B2 fs)(u:(kf,G)∈fs){a:Option Addr}(Z:Aj w a zs)(T:zs.length<=c)(Y:zs≠[]->∀x,a=some x->o x.block=none){H:Value}(hk:NatV w H k)(i:k≠0->∀q,H.ownBlock=some q->o q=none)(hn:nx+200<549755813888)(Q:(fs.length+1)*2^n+(2^n+(2^n-1)*2^n)<=room):
 Cl 26 #[Pt mb,Iv kf,H,.slice a zs.length c] w λx w'=>∃v e,x=.returned (.tuple #[v,Iv e])/\SpP n room w0 mb fs nx ws0 o w (Pf n G zs k e v) w':=by
 have hn64:n<=64:=by have:=h.ok.store.small;rw[h.vars]at this;exact this
 obtain⟨w1,g3⟩:=Ex (w.alloc (.cells #[H] 40));have HW1:Hq (_=w1):=Hd g3.symm;have g1:Bw w w1:=by rw[g3];exact Ag _ _
 have D:w1.heap[w.heap.size]?=some (.cells #[H] 40 (0,0)):=by rw[g3];exact Xv _ _
 have gc:=ChgX.of_below g1 o NoB;have gh:=Z.below g1;have gk:=hk.below g1;have HCK:=Hd (Ip (h.below g1) u (c:=c) gh);obtain⟨P,y⟩:=Ex (λx w'=>∃v e,x=.returned (.tuple #[v,Iv e])/\SpP n room w0 mb fs nx ws0 o w (Pf n G zs k e v) w':Ending->Wd->Prop)
 have g0:∀w2 v,AskN As n (λ_=>True) room w0 mb fs nx m o w1 w2 v->AskN As n (λ_=>True) room w0 mb fs nx m o w w2 v:=λw2 v U=>AskN.trans gc rfl rfl U
 have gj:∀w2 v,AskN As n (λ_=>True) room w0 mb fs nx m o w1 w2 v->∃o2 m2 V2,ChgX NoB o o2 w w2/\m2.waits <:+ ws0/\SatE As n (λ_=>True) room w0 mb fs nx w2 o2 m2 V2/\∀g,w2.heap.size<=g->NatB w.heap.size g k w2 o2:=λw2 v U=>by
  obtain⟨o2,m2,V2,X,t,_,s,_⟩:=U;refine⟨o2,m2,V2,gc.trans X NoB.sub,by rw[t];exact b,s,λg S=>?_⟩;refine NatB.keepB w1 o w2 o2 ⟨⟨H,D,gk,λhx q e=>?_⟩,h.lt.none (Xs _)⟩ X;have gD:=hk.blk hx e;have gC:=X.size;have gB:=g1.size;exact⟨i hx q e,by omega,by omega⟩
 have F:Hq (∀w2 v,AskN As n (λ_=>True) room w0 mb fs nx m o w1 w2 v->chkE n G zs≠0->P (.returned (.tuple #[.slice none 0 0,Iv (chkE n G zs)])) w2):=by
  rw[y];exact Hd λw2 v U I=>⟨_,_,rfl,SpP.ask b (g0 _ _ U) λo'=>.inl ⟨I,rfl,rfl⟩⟩
 have g9:Hq (∀w2 v,AskN As n (λ_=>True) room w0 mb fs nx m o w1 w2 v->chkE n G zs=0->NatV w2 v (cntV n G zs)->w2.cell? (Av w.heap.size)=some H/\∃z,Cl 75 #[H,v] w2 λx f=>x=.returned (Iv z) /\
  (z>=0->P (.returned (.tuple #[.slice none 0 0,Iv 2])) f) /\
  (¬ z>=0->Cl 48 #[Pt mb,Iv kf,.slice a zs.length c,.func (.func 76) #[] #[Pt w.heap.size]] f λx w'=>∃v' J,x=.returned (.tuple #[v',J])/\P (.returned (.tuple #[v',J])) w')):=by
  rw[y];refine Hd λw2 v U I d=>?_
  obtain⟨o2,m2,V2,X,t,s,N⟩:=gj w2 v U;obtain⟨vs,e1,gp,gu,go,gy,e2⟩:=Ed (h.dep u) I;obtain⟨B,gf,gw,_⟩:=(N w2.heap.size (Xs _)).ex;have gv:B=H:=by
   obtain⟨o3,m3,V3,p1,_,_,_,_⟩:=U;have gg:=p1.block w.heap.size (by rw[g3];simp) (h.lt.none (Xs _)) (λe=>e);rw[D,gf]at gg;simpa using gg
  subst gv;refine⟨cell1 gf,cmpZ k (cntV n G zs),(Kj gw d).mono ?_⟩;rintro x f ⟨rfl,g6⟩;have gi:=ChgX.of_below g6 o2 NoB;refine⟨rfl,λgl=>⟨_,_,rfl,nx,o2,m2,V2,ZY _,by omega,X.trans gi NoB.sub,t,s.below g6,.inr ⟨I,vs,e1,.inl ⟨?_,rfl,rfl⟩⟩⟩,λg8=>?_⟩
  ·rw[<-e2];unfold cmpZ at gl
   by_cases c:k<cntV n G zs
   . rw[Xx c]at gl;omega
   . omega
  ·have gF:k<(allL vs G).length:=by
    rw[<-e2];unfold cmpZ at g8
    by_cases c:k<cntV n G zs
    . exact c
    . rw[Xu c]at g8;exfalso;apply g8;split<;>omega
   obtain⟨ds,g5⟩:∃ds,(allL vs G)[k]?=some ds:=⟨(allL vs G)[k],Xy _⟩;have g7:=X.trans gi NoB.sub;have gn:Aj f a (intL vs):=by
    rw[<-e1];exact Z.sameN λg4 x hx gm=>g7.block _ gm (Y g4 x hx) (λe=>e)
   have gt:zs.length=vs.length:=by rw[e1,Cw]
   have gA:=X.size;have gz:=g6.size;have hs1:w.heap.size<w2.heap.size:=(Xt.1 gf).1;rw[gt]
   refine(Kz (Inv:=λg j W o=>NatB w.heap.size g (rkI G vs ds k j) W o) (C:=(· = w.heap.size)) (ds:=ds) (lop:=#[Pt w.heap.size]) (s.below g6) t r u gn (by omega) (λg4 x hx=>⟨by
    subst hx;exact g7.none' (Z.blk (by rw[e1];exact g4)) (Y (by rw[e1];exact g4) x rfl),λe=>by
    subst hx;have:=Z.blk (by rw[e1];exact g4);omega⟩) (λg S=>WP g5 (by omega)) (λg S=>(N g (by omega)).below g6) (D6 g5) (λq e=>by subst e;exact⟨h.chg.size,by omega⟩) gp gu go (by omega) hn Q).mono ?_
   rintro x w' ⟨g,nx',base,rfl,_,gr,gq,hF⟩;refine⟨_,_,rfl,_,_,rfl,hF.sp (K:=As) gr gq g7 (λq e=>by subst e;exact Xs _) λo' M=>.inr ⟨I,vs,e1,.inr ⟨ds,g5,rfl,?_,λq hq=>by cases hq;exact M.lo⟩⟩⟩;have:=M.l.boolsIs (by rw[D6 g5];omega);rw[D6 g5]at this;exact this
 rw[<-y];clear y h u Z Y b r Q g1 D gc gh gk g0 gj i g3;obtain⟨ka,kc,rfl,_,_,_⟩:=hk;have eg:=Pe;have gE:∀(fn:Fn) (first cap:Array Value) (w:Wd),(Instr.makeFunc fn first cap).run prog w=.ok (.func fn first cap) w:=λ_ _ _ _=>rfl
 go_enter func26,ntmps26
 go_upto_region 1 with fail;rw[HW1.o];go_wp2_with fail;refine HCK.o.mono ?_;rintro x w2 ⟨v,rfl,d,g0⟩;have g2:=Hd g0;clear g0 HCK;obtain⟨E,p⟩:=Ex (chkE n G zs)
 by_cases I:E=0
 ·have A:chkE n G zs=0:=by rw[<-p];exact I
  rw[Xx A]at d;obtain⟨gx,z,ge⟩:=g9.o w2 v g2.o A d;have L:=Hd ge;rw[A];clear g9 F g2 p I A d ge;go_wp2_with fail;refine L.o.mono ?_;rintro x f ⟨rfl,h1,h2⟩
  by_cases Z:z>=0
  ·have O:=Hd (h1 Z);clear h1 h2 L;go_wp2_with fail
   first|exact O.o|exact X2 (Yh rfl _ _ _) rfl O.o
  ·have HD:=Hd (h2 (by omega));clear h1 h2 L;go_wp2_with fail;refine HD.o.mono ?_;rintro x w' ⟨v',J,rfl,R⟩;have O:=Hd R;clear R HD;go_wp2_with fail
   first|exact O.o|exact X2 (Yh rfl _ _ _) rfl O.o
 ·have O:=Hd (F.o w2 v g2.o (by rw[<-p];exact I));rw[<-p]at O⊢;clear g9 F g2 p d;go_wp2_with fail
  first|exact O.o|exact X2 (Yh rfl _ _ _) rfl O.o
end
def WQ {P:Nat->Prop}(h:∀e,3<=e->P e):P 1000:=h 1000 (by decide)
def FU:∀(vs:List Nat) (F:BF),(allL vs F).length<=2^vs.length
 | [],F=>by
   show(if F (λ_=>false)then [[]]else []).length<=1
   split<;>simp
 | v::r,F=>by
   have H:allL (v::r) F=(allL r (cofF F v false)).map (false:: ·)++(allL r (cofF F v true)).map (true:: ·):=rfl;have h1:=FU r (cofF F v false);have h2:=FU r (cofF F v true);rw[H,X4,XT,XT,XL,XJ];omega
structure PlaB (lb ab g:Nat)(lv:Value)(bs:List Bool)(x:Nat)(W:Wd)(o:Own):Prop where
 box:W.heap[lb]?=some (.cells #[lv] 28 (0,0))
 no:o lb=none
 ne:lb≠g/\lb≠ab
 is:Ay W lv bs
 un:bs≠[]->∀q,lv.ownBlock=some q->o q=none/\q≠g/\q≠ab
 nat:NatB ab g x W o
def Ay.blk (h:Ay W v bs)(hb:bs≠[])(H:v.ownBlock=some q):q<W.heap.size:=by
 obtain⟨a,c,rfl,h1,_⟩:=h;obtain⟨b,off,e,I⟩:=h1.cells 0 (Z3.2 hb);subst e;have e:b=q:=Yr H;rw[<-e];exact Ad I
def Ay.sameN (h:Ay W v bs)(hk:bs≠[]->∀q,v.ownBlock=some q->q<W.heap.size->W'.heap[q]?=W.heap[q]?):Ay W' v bs:=by
 by_cases hb:bs=[]
 . subst hb;obtain⟨a,c,h1,h2,h3⟩:=h;exact⟨a,c,h1,⟨h2.len,λk g0=>by simp at g0⟩,h3⟩
 . exact h.same λq e=>hk hb q e (h.blk hb e)
section
variable {lb ab:Nat}{o:Own}
def PlaB.keepB:AX (PlaB lb ab g lv bs x):=λW o W' o' h H=>by
 have hl:lb<W.heap.size:=(Xt.1 h.box).1;exact⟨(H.block lb hl h.no (λe=>e)).trans h.box,H.none' hl h.no,h.ne,h.is.sameN λhb q e I=>H.block q I (h.un hb q e).1 (λe=>e),λhb q e=>⟨H.none' (h.is.blk hb e) (h.un hb q e).1,(h.un hb q e).2⟩,NatB.keepB _ _ _ _ h.nat H⟩
def PlaB.below (h:PlaB lb ab g lv bs x W o)(hb:Bw W W'):PlaB lb ab g lv bs x W' o:=PlaB.keepB _ _ _ _ h (ChgX.of_below hb o NoB)
def PlaB.set (H:ab≠g)(h:PlaB lb ab g lv bs x W o)(i:Nat)(v:Value):PlaB lb ab g lv bs x (W.setCell (Aw g i) v) o:=by
 have hl:lb<W.heap.size:=(Xt.1 h.box).1;have I:Wr (· = g) W (W.setCell (Aw g i) v):=(Wr.refl (· = g) W).setCell (p:=Aw g i) (.inl rfl) v;exact⟨(I.keep lb hl h.ne.1).trans h.box,h.no,h.ne,h.is.sameN λhb q e O=>I.keep q O (h.un hb q e).2.1,h.un,h.nat.set H i v⟩
def PlaB.put {u:Value}(h:PlaB lb ab g lv bs x W o)(hu:NatV W u y)(H:y≠0->∀q,u.ownBlock=some q->o q=none/\q≠g/\q≠ab):PlaB lb ab g lv bs y (W.setCell (Av ab) u) o:=by
 have hl:lb<W.heap.size:=(Xt.1 h.box).1;have I:Wr (· = ab) W (W.setCell (Av ab) u):=(Wr.refl (· = ab) W).setCell (p:=Av ab) (.inl rfl) u;exact⟨(I.keep lb hl h.ne.2).trans h.box,h.no,h.ne,h.is.sameN λhb q e H=>I.keep q H (h.un hb q e).2.2,h.un,h.nat.put hu H⟩
end
def Ph (args:Array Value)(w:Wd):(callFunc 49 args).run prog w=.ok (.enter 49 args) w:=YF func49 (by kernel_rfl) rfl args w
def WR {lb ab N:Nat}{o:Own}(h:PlaB lb ab g lv bs x W o)(O:NatV W v N)(H:Ac o W)(f:g<W.heap.size)(U:j<bs.length)(hs:bs.getD j false=true->x+N<2^64):
 Cl 49 #[Iv (j:Nat),v,Pt lb,Pt ab] W λe w'=>e=.returned (.bool (bs.getD j false))/\Wr (· = ab) W w'/\PlaB lb ab g lv bs (if bs.getD j false then x+N else x) w' o:=by
 obtain⟨u,g5,hu,a⟩:=h.nat.ex;have s:=cell1 h.box;have X:=cell1 g5;have g3:ab<W.heap.size:=Ad X;obtain⟨T,cl,rfl,g6,_⟩:=h.is;obtain⟨b,off,rfl,g9⟩:=g6.cells j U;have gf:=g6.len;have ge:(j:Int)<(bs.length:Int):=by omega
 obtain⟨d,I⟩:=Ex (bs.getD j false);rw[<-I]at g9 hs⊢;cases d with
 | false=>
   have D:Hq (Wr (· = ab) W W/\PlaB lb ab g (.slice (some (Aw b off)) bs.length cl) bs x W o):=Hd ⟨Wr.refl _ _,h⟩;clear h O H f hs I hu a g5 g6
   go_enter func49,ntmps49
   go_wp2;go_ret;exact⟨rfl,D.o⟩
 | true=>
   have hs:=hs rfl;have g8:b≠ab:=(h.un (λe=>by subst e;simp at U) b rfl).2.2;obtain⟨w1,g4⟩:=Ex (W.alloc (.cells #[u,v] 40));have HW1:Hq (_=w1):=Hd g4.symm;have g1:Bw W w1:=by rw[g4];exact Ag _ _
   have g2:w1.heap[W.heap.size]?=some (.cells #[u,v] 40 (0,0)):=by rw[g4];exact Xv _ _
   have g7:E6 w1 (some (Av W.heap.size)) [x,N]:=⟨by simp,λk hk=>by
    rcases(show k=0\/k=1 by simp at hk;omega)with rfl|rfl
    . exact⟨_,0,u,rfl,by rw[Xw _ _ 0 _ _ _ g2];rfl,hu.below g1⟩
    . exact⟨_,0,v,rfl,by rw[Xw _ _ 1 _ _ _ g2];rfl,O.below g1⟩⟩
   have l:=Hd (O0 (c:=2) g7 (by
    have e:[x,N].sum=x+N:=by simp
    rw[e];exact WQ (P:=λe=>x+N<4294967296^e) λe n=>X5 (show x+N<4294967296^3 by omega) (X8 (by omega) n)))
   have i:Hq (∀w2 v',Bw w1 w2->NatV w2 v' [x,N].sum->(∀q,v'.ownBlock=some q->w1.heap.size<=q)->Wr (· = ab) W (w2.setCell (Av ab) v')/\PlaB lb ab g (.slice (some (Aw b off)) bs.length cl) bs (x+N) (w2.setCell (Av ab) v') o/\w2.cell? (Av ab)=some u/\w2.frozen? (Av ab)=false/\w2.cell? (Av lb)=some (.slice (some (Aw b off)) bs.length cl)/\w2.cell? (Aw b (off+j))=some (.bool true)/\lb≠ab/\ab≠lb/\b≠ab/\ab≠b):=Hd λw2 v' hb h1 h2=>by
    have e:[x,N].sum=x+N:=by simp
    rw[e]at h1;have g0:=g1.trans (hb.mono g1.size);have R:=g1.size;have m:=(h.below g0).put h1 λ_ q e=>⟨H.none (by have:=h2 q e;omega),by have:=h2 q e;omega,by have:=h2 q e;omega⟩
    refine⟨(Wr.of_below g0 (· = ab)).setCell (p:=Av ab) (.inl rfl) v',m,(g0.cell (p:=Av ab) g3).trans X,by have:=(g0.block ab g3).trans g5;simp[World.frozen?,this],cell1 (h.below g0).box,?_,h.ne.2,λe=>h.ne.2 e.symm,g8,λe=>g8 e.symm⟩;obtain⟨A,y,e2,r,_⟩:=(h.below g0).is;injection e2 with e2 _ e3
    subst e2;obtain⟨S,off3,t,gc⟩:=r.cells j U;cases t;rw[gc,<-I]
   obtain⟨au,cu,rfl,_,_,_⟩:=hu;obtain⟨av,cv,rfl,_,_,_⟩:=O;clear h H f hs I a g5 g6 g1 g2 g7 g4
   go_enter func49,ntmps49
   go_upto_region 2 with fail;go_wp2_with fail;rw[HW1.o];refine l.o.mono ?_;rintro e w2 ⟨⟨v',rfl,h1,h2⟩,hb⟩;obtain⟨Z,Y,M,L,K,J,G,F,E,Q⟩:=i.o w2 v' hb h1 h2;have C:=Hd Z;have B:=Hd Y;obtain⟨z,w,rfl,_,_,_⟩:=h1;clear hb h2 i l Z Y X g3 s g9;go_wp2;go_ret;exact⟨rfl,C.o,B.o⟩
def WS {lb ab:Nat}(h:(allL vs G)[k]?=some bs)(hl:vs.length<=64)(H:ab≠g):ChoC (λj W o=>PlaB lb ab g lv bs (ahI G vs bs j) W o) (· = ab) 49 #[Pt lb,Pt ab] bs (numI G vs bs) g:=
 ⟨Ph,λ_ _ _ i y hi=>hi.set H i _,λ_=>PlaB.keepB,λ_ _ _ hi q e=>by subst e;exact hi.nat.no,λj O W o v I X hi U _=>(WR hi U I X O (λY=>by
  rw[D6 h]at O;have h1:=K3 h (j+1) (by omega);have h2:ahI G vs bs (j+1)=ahI G vs bs j+numI G vs bs j:=by
   show(if bs.getD j false then ahI G vs bs j+numI G vs bs j else ahI G vs bs j)=_
   rw[Xx Y]
  have h3:k<(allL vs G).length:=(XI.1 h).1;have a:=FU vs G;have Z:2^vs.length<=2^64:=X8 (by omega) hl;omega)).mono λx w' hx=>hx⟩
def plV (vs:List Nat)(bs:List Bool):Nat->Nat->Bool
 | 0=>λ_=>false
 | i+1=>upd (plV vs bs i) (vs.getD i 0) (bs.getD i false)
def rowV (n:Nat)(ρ:Nat->Bool):List Bool:=(List.range n).map ρ
def Iq (n:Nat)(ρ:Nat->Bool):(rowV n ρ).length=n:=by unfold rowV;simp
def WT {v:Nat}{ρ:Nat->Bool}{b:Bool}(H:v<n):(rowV n ρ).set v b=rowV n (upd ρ v b):=by
 unfold rowV;apply Ym
 . simp
 ·intro j h1 h2;rw[Z6];simp only[ZS,List.getElem_range];unfold upd
  by_cases e:v=j
  . rw[Xx e,Xx e.symm]
  . rw[Xu e,Xu (λc=>e c.symm)]
def WU {ρ:Nat->Bool}{v:Nat}(H:v<n):A4 (rowV n ρ) v=ρ v:=by
 unfold A4 rowV;simp[List.getD,H]
def Pi {vs:List Nat}{bs:List Bool}(H:vs.Nodup){i:Nat}:∀j,j<=vs.length->i<j->plV vs bs j (vs.getD i 0)=bs.getD i false
 | 0,_,h=>by omega
 | j+1,hj,h=>by
   show upd (plV vs bs j) (vs.getD j 0) (bs.getD j false) (vs.getD i 0)=_
   unfold upd
   by_cases e:i=j
   . rw[e,Xx rfl]
   . rw[Xu,Pi H j (by omega) (by omega)];intro c;simp only[List.getD,Xy (show i<vs.length by omega),Xy (show j<vs.length by omega),Z7]at c;exact e ((List.getElem_inj H).1 c)
def Pj:∀{vs:List Nat} {bs:List Bool},vs.Nodup->bs.length=vs.length->∀i,i<vs.length->asg vs bs (vs.getD i 0)=bs.getD i false
 | [],_,_,_,i,h=>by simp at h
 | v::r,[],_,hb,_,_=>by simp at hb
 | v::r,b::l,hn,hb,i,hi=>by
   show upd (asg r l) v b ((v::r).getD i 0)=_
   unfold upd;rw[YO]at hn;cases i with
   | zero=>
     have e0:(v::r).getD 0 0=v:=rfl;rw[e0,Xx rfl];rfl
   | succ i=>
     have H:i<r.length:=by simpa using hi
     have e1:(v::r).getD (i+1) 0=r.getD i 0:=rfl;rw[e1,Xu,Pj hn.2 (by simpa using hb) i H]
     . rfl
     . intro c;refine hn.1 ?_;rw[<-c];simp[List.getD,H]
def WV (X:DepF n G)(U:vs.Nodup)(H:Br vs G)(I:∀v∈vs,v<n)(hb:bs.length=vs.length):G (A4 (rowV n (plV vs bs vs.length)))=G (asg vs bs):=by
 refine H _ _ λv O=>?_
 obtain⟨i,hi,rfl⟩:=Yn O;have e:vs[i]=vs.getD i 0:=by simp[List.getD,hi]
 rw[WU (I _ O),e,Pi U _ (Xs _) hi,Pj U hb i hi]
section
variable {o:Own}
def Ir (n:Nat)(G:BF)(zs:List Int)(bs:List Bool)(e:Int)(v:Value)(W:Wd)(_:Own):Prop:=
 (chkE n G zs≠0/\e=chkE n G zs/\NatV W v 0)\/(chkE n G zs=0/\bs.length≠zs.length/\e=3/\NatV W v 0) \/
  (chkE n G zs=0/\∃vs,zs=intL vs/\bs.length=vs.length/\((G (asg vs bs)=false/\e=21/\NatV W v 0)\/(∃k,(allL vs G)[k]?=some bs/\e=0/\NatV W v k)))
def Pk (h:SatE As n (λ_=>True) room w0 mb fs nx w o m V)(J:m.waits <:+ ws0)(N:B2 fs)(A:(kf,G)∈fs){a:Option Addr}(hz:Aj w a zs)(hcap:zs.length<=c)(s:zs≠[]->∀x,a=some x->o x.block=none)(hl:Ay w lv bs)(u:bs≠[]->∀q,lv.ownBlock=some q->o q=none)(hn:nx+200<549755813888)(hr:(fs.length+1)*2^n+(2^n+(2^n-1)*2^n)<=room):
 Cl 11 #[Pt mb,Iv kf,lv,.slice a zs.length c] w λx w'=>∃v e,x=.returned (.tuple #[v,Iv e])/\SpP n room w0 mb fs nx ws0 o w (Ir n G zs bs e v) w':=by
 have hn64:n<=64:=by have:=h.ok.store.small;rw[h.vars]at this;exact this
 obtain⟨w1,gn⟩:=Ex (w.alloc (.cells #[lv] 28));have HW1:Hq (_=w1):=Hd gn.symm;have T:Bw w w1:=by rw[gn];exact Ag _ _
 have gA:w1.heap[w.heap.size]?=some (.cells #[lv] 28 (0,0)):=by rw[gn];exact Xv _ _
 have gw:=ChgX.of_below T o NoB;have gm:=hz.below T;have gy:w.heap.size<w1.heap.size:=(Xt.1 gA).1;have HCK:=Hd (Ip (h.below T) A (c:=c) gm);obtain⟨P,hP⟩:=Ex (λx w'=>∃v e,x=.returned (.tuple #[v,Iv e])/\SpP n room w0 mb fs nx ws0 o w (Ir n G zs bs e v) w':Ending->Wd->Prop)
 obtain⟨I,p⟩:=Ex (λW=>∃o2 m2 V2,ChgX NoB o o2 w1 W/\m2.waits <:+ ws0/\SatE As n (λ_=>True) room w0 mb fs nx W o2 m2 V2:Wd->Prop)
 have gt:∀W W',I W->Bw W W'->I W':=by
  rw[p];rintro W W' ⟨o2,m2,V2,O,Y,l⟩ hb;exact⟨o2,m2,V2,O.trans (ChgX.of_below hb o2 NoB) NoB.sub,Y,l.below hb⟩
 have g2:∀w2 v,AskN As n (λ_=>True) room w0 mb fs nx m o w1 w2 v->I w2:=by
  rw[p];rintro w2 v ⟨o2,m2,V2,O,Y,_,z,_⟩;exact⟨o2,m2,V2,O,by rw[Y];exact J,z⟩
 have g6:∀W,I W->W.heap[w.heap.size]?=some (.cells #[lv] 28 (0,0))/\Aj W a zs/\Ay W lv bs/\w1.heap.size<=W.heap.size:=by
  rw[p];rintro W ⟨o2,m2,V2,O,Y,l⟩;exact⟨(O.block _ gy (h.lt.none (Xs _)) (λe=>e)).trans gA,gm.sameN λg0 x hx g1=>O.block _ g1 (s g0 x hx) (λe=>e),(hl.sameN (W':=w1) λ_ q _ hq=>T.block q hq).sameN λg0 q e hq=>O.block q hq (u g0 q e) (λe=>e),O.size⟩
 have gu:∀W e v,I W->Ir n G zs bs e v W o->P (.returned (.tuple #[v,Iv e])) W:=by
  rw[p,hP];rintro W e v ⟨o2,m2,V2,O,Y,l⟩ hp;exact⟨v,e,rfl,nx,o2,m2,V2,ZY _,by omega,gw.trans O NoB.sub,Y,l,hp⟩
 have gl:Hq (∀w2 v,AskN As n (λ_=>True) room w0 mb fs nx m o w1 w2 v->chkE n G zs≠0->P (.returned (.tuple #[.slice none 0 0,Iv (chkE n G zs)])) w2):=
  Hd λw2 v L U=>gu _ _ _ (g2 _ _ L) (.inl ⟨U,rfl,Eb _⟩)
 have gk:Hq (∀w2 v,AskN As n (λ_=>True) room w0 mb fs nx m o w1 w2 v->chkE n G zs=0->I w2/\w2.cell? (Av w.heap.size)=some lv/\(bs.length≠zs.length->P (.returned (.tuple #[.slice none 0 0,Iv 3])) w2)):=Hd λw2 v L U=>
  ⟨g2 _ _ L,cell1 (g6 _ (g2 _ _ L)).1,λg0=>gu _ _ _ (g2 _ _ L) (.inr (.inl ⟨U,g0,rfl,Eb _⟩))⟩
 have gf:Hq (∀W,I W->Cl 46 #[Pt mb] W (Sm (Iv (n:Nat)) W)):=by
  rw[p];refine Hd λW F=>?_
  obtain⟨o2,m2,V2,O,Y,l⟩:=F;have t:=DR l.is;rw[l.vars]at t;exact t
 have S:Hq (∀W vs i,I W->zs=intL vs->(∀v∈vs,v<n)->bs.length=vs.length->i<vs.length->W.cell? (Av w.heap.size)=some lv/\(∃b off,a=some (Aw b off)/\W.cell? (Aw b (off+i))=some (Iv ((vs.getD i 0:Nat):Int)))/\vs.getD i 0<n/\∃b off cl,lv=.slice (some (Aw b off)) bs.length cl/\W.cell? (Aw b (off+i))=some (.bool (bs.getD i false))):=Hd λW vs i F e t hb hi=>by
  obtain⟨O,Y,l,_⟩:=g6 W F;refine⟨cell1 O,?_,t _ (by simp[List.getD,hi]),?_⟩
  . obtain⟨b,off,ea,hc⟩:=Y.cells i (by rw[e,Cw];exact hi);rw[e,OZ hi]at hc;exact⟨b,off,ea,hc⟩
  . obtain⟨al,cl,e1,hm,_⟩:=l;obtain⟨b,off,e2,hc⟩:=hm.cells i (by omega);subst e2;exact⟨b,off,cl,e1,hc⟩
 have Q:Hq (∀W vs g base,I W->zs=intL vs->vs.Nodup->(∀v∈vs,v<n)->Br vs G->chkE n G zs=0->bs.length=vs.length->OwnB W base (.slice (some (Av g)) n n) (rowV n (plV vs bs vs.length))->Cl 47 #[Pt mb,Iv kf,.slice (some (Av g)) n n] W λx H=>x=.returned (.tuple #[.bool (G (asg vs bs)),Iv 0]) /\
  (G (asg vs bs)=false->P (.returned (.tuple #[.slice none 0 0,Iv 21])) H) /\
  (G (asg vs bs)=true->∀Z,Z=H.alloc (.cells #[.slice none 0 0] 40)->Cl 48 #[Pt mb,Iv kf,.slice a zs.length c,.func (.func 49) #[] #[Pt w.heap.size,Pt H.heap.size]] Z λx w'=>∃v1 v2,x=.returned (.tuple #[v1,Iv 0])/\w'.cell? (Av H.heap.size)=some v2/\P (.returned (.tuple #[v2,Iv 0])) w')):=by
  refine Hd λW vs g base F e1 g4 g1 g5 U gc gT=>?_
  have gM:=F;rw[p]at gM;obtain⟨o2,m2,V2,O,Y,z⟩:=gM;obtain⟨f,hh,hj⟩:=z.find A;obtain⟨ar,cr,er,gZ,_⟩:=gT.boolsIs (by rw[Iq];omega);rw[Iq]at er;injection er with er1 er2 er3
  subst er1 er3;have gI:=R4 z.is z.lt z.ok hh (some (Av g)) n (rowV n (plV vs bs vs.length)) gZ;rw[Iq,show ef V2 f=G from hj,WV (h.dep A) g4 g5 g1 gc]at gI;refine gI.mono ?_;rintro x H ⟨rfl,ho⟩;have ge:=gt W H F ho;refine⟨rfl,λh9=>gu _ _ _ ge (.inr (.inr ⟨U,vs,e1,gc,.inl ⟨h9,rfl,Eb _⟩⟩)),λh8 Z g8=>?_⟩;have gU:bs∈allL vs G:=(Fh vs G bs).2 ⟨gc,h8⟩;obtain⟨k,hk⟩:∃k,(allL vs G)[k]?=some bs:=List.getElem?_of_mem gU;have gB:Bw H Z:=by rw[g8];exact Ag _ _
  have gL:Z.heap[H.heap.size]?=some (.cells #[.slice none 0 0] 40 (0,0)):=by rw[g8];exact Xv _ _
  have gN:=gt _ _ ge gB;obtain⟨r1,r2,r3,r4⟩:=g6 _ ge;obtain⟨s1,s2,s3,s4⟩:=g6 _ gN;rw[p]at ge gN;obtain⟨o5,m5,V5,t1,t2,t4⟩:=ge;have gV:=ChgX.of_below gB o5 NoB;have g9:=t1.trans gV NoB.sub;have gq:zs.length=vs.length:=by rw[e1,Cw]
  have hD:=CQ n vs g4 g1;rw[gq];have gX:H.heap.size<Z.heap.size:=(Xt.1 gL).1
  refine(Kz (Inv:=λg j W o=>PlaB w.heap.size H.heap.size g lv bs (ahI G vs bs j) W o) (C:=(· = H.heap.size)) (ds:=bs) (lop:=#[Pt w.heap.size,Pt H.heap.size]) (t4.below gB) t2 N A (by rw[<-e1];exact s2) (by omega) (λg0 x hx=>⟨by
   subst hx;exact g9.none' (gm.blk (by rw[e1];exact g0)) (s (by rw[e1];exact g0) x rfl),λe=>by
   subst hx;have:=r2.blk (by rw[e1];exact g0);omega⟩) (λg hg=>WS hk (by omega) (by omega)) (λg hg=>⟨s1,g9.none' gy (h.lt.none (Xs _)),by omega,s3,λg0 q e=>by
    have hq:=hl.blk g0 e;exact⟨g9.none' (by omega) (u g0 q e),by omega,by omega⟩,⟨⟨_,gL,Eb _,λe=>absurd rfl e⟩,t4.lt.none (Xs _)⟩⟩) gc (λq e=>by subst e;exact⟨t4.chg.size,gX⟩) g4 g1 g5 (by omega) hn hr).mono ?_
  rintro x w' ⟨g',nx',base',rfl,_,h3,h0,hF⟩;obtain⟨o7,m7,V7,u1,u2,u3,u4⟩:=hF;obtain⟨v2,gJ,gF,_⟩:=u4.inv.nat.ex;rw[WH hk]at gF;refine⟨_,v2,rfl,cell1 gJ,?_⟩;rw[hP];exact⟨v2,0,rfl,FxS.sp (K:=As) (B:=λ_ _=>True) ⟨o7,m7,V7,u1,u2,u3,trivial⟩ h3 h0 (gw.trans g9 NoB.sub) (λq e=>by subst e;omega) λo' _=>.inr (.inr ⟨U,vs,e1,gc,.inr ⟨k,hk,rfl,gF⟩⟩)⟩
 have HZ:Hq (chkE n G zs=0->∃vs,zs=intL vs/\vs.Nodup/\(∀v∈vs,v<n)/\Br vs G/\zs.length=vs.length):=Hd λU=>by
  obtain⟨vs,e1,g4,g1,g5,_⟩:=Ed (h.dep A) U;exact⟨vs,e1,g4,g1,g5,by rw[e1,Cw]⟩
 have R:Hq (∀W W',I W->Bw W W'->I W'):=Hd gt;have hC:=hz.len;have hB:bs.length<=1000000:=by obtain⟨_,_,_,q,_⟩:=hl;exact q.len
 rw[<-hP];clear hP h A hz s J N hr T gA gw gm gn gt g2 g6 gu p u gy;obtain⟨la,lc,rfl,_,_⟩:=hl;have eg:=Ph;have hG:∀(fn:Fn) (first cap:Array Value) (w:Wd),(Instr.makeFunc fn first cap).run prog w=.ok (.func fn first cap) w:=λ_ _ _ _=>rfl
 go_enter func11,ntmps11
 go_upto_region 1 with fail;rw[HW1.o];go_wp2_with fail;refine HCK.o.mono ?_;rintro x w2 ⟨v,rfl,t,gC⟩;have gb:=Hd gC;clear gC HCK;obtain⟨E,M⟩:=Ex (chkE n G zs)
 by_cases U:E=0
 ·have gr:chkE n G zs=0:=by rw[<-M];exact U
  have gR:=Hd gr;obtain⟨gH,gE,ga⟩:=gk.o w2 v gb.o gr;have gD:=Hd gH;rw[gr];clear gk gl gb M U gr t gH
  by_cases gz:bs.length=zs.length
  ·have gq:(bs.length:Int)=(zs.length:Int):=by omega
   have HV:=Hd (gf.o w2 gD.o);clear ga;go_wp2_with fail;refine HV.o.mono ?_;rintro x w' ⟨rfl,rfl⟩;go_wp2_with (at_make;refine C7 C6 rfl _ _ rfl w2.heap.size w2 _ n rfl rfl rfl (by omega) (Xs _) (X7 _ _) ?_;intro g w3 gp gK gY h4 h7 h6;clear h6)
   have gP:Hq (OwnB w3 w2.heap.size (.slice (some (Av g)) n n) (rowV n (λ_=>false))):=Hd (by
    have e:rowV n (λ_=>false)=List.replicate n false:=by unfold rowV;rw[List.map_const',List.length_range]
    rw[e];unfold OwnB;simpa [AA]using gp)
   have gS:=Hd gK;clear gp gK gY h4 HV gE;obtain⟨vs,e1,g4,g1,g5,gG⟩:=HZ.o gR.o;have gv:=Hd gG;have gO:=Hd e1;have hy:=Hd g4;have gQ:=Hd g1;have hu:=Hd g5;have gj:=Hd gz;clear e1 g4 g1 g5 gG HZ gq;go_wp2
   go_loopw [13,14,40] (λ_ _ r wr=>∃i:Nat,i<=zs.length/\r=Iv (i:Int)/\Hq (OwnB wr w2.heap.size (.slice (some (Av g)) n n) (rowV n (plV vs bs i)))/\Hq (Bw w2 wr)) (λ_ _ r _=>zs.length-(intOf r).toNat)
   case atStart=>exact⟨0,X0 _,rfl,gP,gS⟩
   case round=>
    clear gP gS;obtain⟨i,hi,rfl,g3,g7⟩:=hrel
    by_cases g1:i<zs.length
    ·have h5:(i:Int)<(zs.length:Int):=by omega
     obtain⟨c0,⟨b,off,ea,c1⟩,gx,b2,off2,cl2,el,c2⟩:=S.o wr vs i (R.o _ _ gD.o g7.o) gO.o gQ.o (by have:=gj.o;have:=gv.o;omega) (by have:=gv.o;omega);injection el with el1 _ el3
     subst ea el1 el3;obtain⟨y,go⟩:=Ex (vs.getD i 0);obtain⟨d,D⟩:=Ex (bs.getD i false)
     have hw:Hq (OwnB (wr.setCell (Aw g y) (.bool d)) w2.heap.size (.slice (some (Av g)) n n) (rowV n (plV vs bs (i+1)))):=Hd (by
      have e:rowV n (plV vs bs (i+1))=(rowV n (plV vs bs i)).set y d:=by
       rw[WT (by rw[go];exact gx),go,D];rfl
      rw[e];exact g3.o.setB y d)
     have hA:Hq (Bw w2 (wr.setCell (Aw g y) (.bool d))):=Hd (g7.o.setCell h7 _);rw[<-go]at c1 gx;rw[<-D]at c2;have q0:=g3.o.cellB y (by rw[Iq];exact gx);have p0:=g3.o.frozen y;have hH:=gj.o;clear go D g3 g7 Q gf S;go_wp2;go_roundw
     case rel=>exact⟨i+1,by omega,by go_num,hw,hA⟩
     case measure=>simp[intOf];omega
    ·obtain rfl:i=zs.length:=by omega
     have h5:¬ (zs.length:Int)<(zs.length:Int):=by omega
     obtain⟨d,D⟩:=Ex (G (asg vs bs));have HE:=Hd (Q.o wr vs g w2.heap.size (R.o _ _ gD.o g7.o) gO.o hy.o gQ.o hu.o gR.o (by have:=gj.o;have:=gv.o;omega) (by rw[<-gv.o];exact g3.o));rw[<-D]at HE;clear D Q gf S g3 g7 R;cases d with
     | false=>
       go_wp2_with fail;refine HE.o.mono ?_;rintro x H ⟨rfl,h1,_⟩;have X:=Hd (h1 (by simp));clear h1 HE;go_wp2_with fail
       first|exact X.o|exact X2 (Yh rfl _ _ _) rfl X.o
     | true=>
       go_wp2_with fail;refine HE.o.mono ?_;rintro x H ⟨rfl,_,h2⟩;obtain⟨Z,g8⟩:=Ex (H.alloc (.cells #[.slice none 0 0] 40));have ht:Hq (_=Z):=Hd g8.symm;have HD:=Hd (h2 (by simp) Z g8);clear h2 HE g8;go_upto_region 18 with fail;rw[ht.o];go_wp2_with fail;refine HD.o.mono ?_;rintro x w' ⟨v1,v2,rfl,gJ,hp⟩;have X:=Hd hp;clear hp HD;go_wp2_with fail
       first|exact X.o|exact X2 (Yh rfl _ _ _) rfl X.o
  ·have X:=Hd (ga gz);have gq:¬ (bs.length:Int)=(zs.length:Int):=by omega
   clear ga S Q gf HZ R;go_wp2_with fail
   first|exact X.o|exact X2 (Yh rfl _ _ _) rfl X.o
 ·have X:=Hd (gl.o w2 v gb.o (by rw[<-M];exact U));rw[<-M]at X⊢;clear gk gl gb M t S Q gf HZ R;go_wp2_with fail
  first|exact X.o|exact X2 (Yh rfl _ _ _) rfl X.o
end
def SpS (n room:Nat)(w0:Wd)(mb:Nat)(fs:List (Int×BF))(nx:Int)(ws0:List Ev)(rs:List (Value×List Bool))(W:Wd):Prop:=
 ∃o m V,m.waits <:+ ws0/\SatE As n (λ_=>True) room w0 mb fs nx W o m V/\∀p∈rs,Ay W p.1 p.2/\(p.2≠[]->∀q,p.1.ownBlock=some q->o q=none)
section
variable {rs:List (Value×List Bool)}{o:Own}
def WW (h:∀p∈rs,Ay w p.1 p.2/\(p.2≠[]->∀q,p.1.ownBlock=some q->o q=none))(O:ChgX NoB o o' w w'):∀p∈rs,Ay w' p.1 p.2/\(p.2≠[]->∀q,p.1.ownBlock=some q->o' q=none):=λp I=>
 ⟨(h p I).1.sameN λH q e U=>O.block q U ((h p I).2 H q e) (λe=>e),λH q e=>O.none' ((h p I).1.blk H e) ((h p I).2 H q e)⟩
def SpS.below0 (h:SpS n room w0 mb fs nx ws0 rs w):Bw w0 w:=by
 obtain⟨o,m,V,h1,h2,h3⟩:=h;exact h2.chg.below0
def SpS.ask {Φ:Value->Int->Wd->Own->Prop}(h:SpS n room w0 mb fs nx ws0 rs W)(hb:Bw W w)(d:∀o m V,m.waits <:+ ws0->Ac o W->SatE As n (λ_=>True) room w0 mb fs nx w o m V->Calls prog f args w λx w'=>∃v e,x=.returned (.tuple #[v,Iv e])/\SpP n room w0 mb fs nx ws0 o w (Φ v e) w'):
 Calls prog f args w λx w'=>∃v e nx' o',x=.returned (.tuple #[v,Iv e])/\nx<=nx'/\nx'<=nx+200/\Φ v e w' o'/\SpS n room w0 mb fs nx' ws0 rs w'/\∀bs,Ay w' v bs->(∀q,v.ownBlock=some q->o' q=none)->SpS n room w0 mb fs nx' ws0 (rs++[(v,bs)]) w':=by
 obtain⟨o,m,V,h1,h2,h3⟩:=h;refine(d o m V h1 h2.lt (h2.below hb)).mono ?_;rintro x w' ⟨v,e,rfl,nx',o',m',V',Z,Y,X,I,H,U⟩;have O:=WW h3 ((ChgX.of_below hb o NoB).trans X NoB.sub);refine⟨v,e,nx',o',rfl,Z,Y,U,⟨o',m',V',I,H,O⟩,λbs hb a=>⟨o',m',V',I,H,λp b=>?_⟩⟩;rcases XD.1 b with c|c
 . exact O p c
 . simp at c;rw[c];exact⟨hb,λ_=>a⟩
end
def Is (bx H:List Bool)(I:H.length=bx.length)(d c:Option Addr)(l k:Nat)(w:Wd)(h1:AM w d bx)(h2:AM w c H):
 Cl 16 #[.slice d bx.length l,.slice c bx.length k] w (Bl (.bool (decide (bx=H))) w):=by
 have n:=Hd h1;have m:=Hd h2;have hl:=h1.len;have g7:=Hd I;obtain⟨L,a⟩:=Ex bx.length;have b:=Hd a;rw[<-a]at hl⊢;clear h1 h2 a I
 go_enter func16,ntmps16
 go_wp2
 go_loopw [4,5] (λp X wr=>∃j:Nat,j<=L/\X=Iv j/\Hq (Bw w wr)/\Hq (∀q,q<j->bx.getD q false=H.getD q false)) (λ_ X _=>L-(intOf X).toNat)
 case atStart=>exact⟨0,X0 _,rfl,Hd (X7 _ _),Hd λq g=>by omega⟩
 case round=>
  obtain⟨j,r,rfl,U,HQ⟩:=hrel
  by_cases g4:j<L
  ·obtain⟨b1,Z,rfl,c1⟩:=(n.o.below U.o).cells j (by rw[<-b.o];exact g4);obtain⟨b2,Y,rfl,c2⟩:=(m.o.below U.o).cells j (by rw[g7.o,<-b.o];exact g4);have g2:=Hd (U.o.trans ((An wr 1).mono U.o.size));have g9:(j:Int)<(L:Int):=by omega
   obtain⟨y1,g1⟩:∃y,y=bx.getD j false:=⟨_,rfl⟩;obtain⟨y2,g0⟩:∃y,y=H.getD j false:=⟨_,rfl⟩;rw[<-g1]at c1;rw[<-g0]at c2;have g5:Hq (y1=y2->∀q,q<j+1->bx.getD q false=H.getD q false):=Hd λe q g=>by
    rcases X9 q j with h|h
    . exact HQ.o q h
    ·obtain rfl:q=j:=by omega
     rw[<-g1,<-g0,e]
   have g6:Hq (y1≠y2->bx≠H):=Hd λg8 e=>g8 (by rw[g1,g0,e])
   clear g1 g0;go_upto_region 6 with fail;refine AJ (λW:Wd=>W.cell? (Aw b1 (Z+j))=some (.bool y1)/\W.cell? (Aw b2 (Y+j))=some (.bool y2)) false 9
    [(0,false),(1,false),(2,false),(3,false),(4,false),(5,false),(6,false),(7,false),(8,false)] (by kernel_rfl) (by kernel_rfl) ⟨c1,c2⟩ ?_
   simp only[planned,AI]
   iterate 9
    refine A0 rfl ?_;apply Exists.intro;refine⟨λw' f=>?_,?_⟩
    . obtain⟨h1,h2⟩:=f;go_simp;rfl
    simp only[Ab]
   refine B6 ?_;clear c1 c2;cases y1<;>cases y2
   ·have g3:=Hd (g5.o rfl);go_wp2;go_roundw
    case rel=>exact⟨j+1,by omega,by go_num,g2,g3⟩
    case measure=>simp[intOf];omega
   . have O:Hq (Ending.returned (.bool false)=.returned (.bool (decide (bx=H)))):=Hd (by rw[XW (g6.o (by simp))]);go_wp2;go_ret;exact⟨O.o,g2.o⟩
   . have O:Hq (Ending.returned (.bool false)=.returned (.bool (decide (bx=H)))):=Hd (by rw[XW (g6.o (by simp))]);go_wp2;go_ret;exact⟨O.o,g2.o⟩
   ·have g3:=Hd (g5.o rfl);go_wp2;go_roundw
    case rel=>exact⟨j+1,by omega,by go_num,g2,g3⟩
    case measure=>simp[intOf];omega
  ·have O:Hq (Ending.returned (.bool true)=.returned (.bool (decide (bx=H)))):=Hd (by
    rw[XQ];refine Ym g7.o.symm λi h1 h2=>?_
    have:=HQ.o i (by have:=b.o;omega);simpa [List.getD,h1,h2]using this)
   have g9:¬ (j:Int)<(L:Int):=by omega
   go_wp2;go_ret;exact⟨O.o,U.o⟩
def WX (h0:0<x)(h:x<4294967296):digD x=[x]:=by
 rw[Do (by omega),Y0 h,BY,aT h]
def WY (h:x<4294967296):bits .or .u64 0 (x:Int)=(x:Int):=by
 have h1:(BitVec.ofInt 64 (x:Int)).toNat=x:=by
  rw[BitVec.toNat_ofInt];omega
 show IntKind.u64.wrap ((BitVec.ofInt 64 0 ||| BitVec.ofInt 64 (x:Int)).toNat:Int)=_
 rw[BitVec.toNat_or,h1,show(BitVec.ofInt 64 0).toNat=0 by decide,Nat.zero_or,aV];omega
def WZ (h:NatV w v x)(hx:x<4294967296):
 Cl 53 #[v] w (Sm (.tuple #[.int .u64 (x:Nat),.bool true]) w):=by
 have I:=Hd (Ic h);obtain⟨a0,d,rfl,_,_,_⟩:=h
 by_cases h0:x=0
 ·subst h0;rw[BY]at I⊢
  go_enter func53,ntmps53
  go_wp2_with fail;refine I.o.mono ?_;rintro e w' ⟨⟨v',rfl,X⟩,rfl⟩;obtain⟨a,c,rfl,_,_,_⟩:=X;rw[BY];clear I;go_wp2
  go_loopw [2,4,5,13] (λU _ _ H wr=>wr=w/\U=.int .u64 0/\H=Iv 0) (λ_ _ _ _ _=>0)
  case atStart=>exact⟨rfl,rfl,rfl⟩
  case round=>
   obtain⟨rfl,rfl,rfl⟩:=hrel;go_wp2
   go_ret2
   exact⟨rfl,rfl⟩
 ·have O:=WX (x:=x) (by omega) hx;rw[O]at I⊢
  go_enter func53,ntmps53
  go_wp2_with fail;refine I.o.mono ?_;rintro e w' ⟨⟨v',rfl,X⟩,rfl⟩;obtain⟨a,c,rfl,_,_,hu⟩:=X;obtain⟨b,off,rfl,Y⟩:=hu.cells 0 (by rw[O];simp);rw[O]at Y;have g0:w.cell? (Aw b off)=some (.int .u32 (x:Nat)):=Y;rw[O];clear I Y hu O;go_wp2
  go_loopw [2,4,5,13] (λU _ _ H wr=>wr=w/\∃j:Nat,j<=1/\H=Iv (j:Nat)/\U=.int .u64 (if j=0 then 0 else(x:Int))) (λ_ _ _ H _=>1-(intOf H).toNat)
  case atStart=>exact⟨rfl,0,by omega,rfl,rfl⟩
  case round=>
   obtain⟨rfl,j,Z,rfl,rfl⟩:=hrel;rcases(show j=0\/j=1 by omega)with rfl|rfl
   . rw[Xx rfl];go_wp2_with fail;exact⟨⟨trivial,1,by omega,rfl,by rw[WY hx];rfl⟩,by simp[intOf]⟩
   ·rw[Xu (by omega)];go_wp2
    go_ret2
    exact⟨rfl,rfl⟩
def FW (h:NatV w v x)(hx:x<4294967296):
 Cl 14 #[v] w (Sm (Iv (x:Nat)) w):=by
 have H:=Hd (WZ h hx);have g0:¬ (1099511627776:Int)<(x:Nat):=by omega
 have g1:IntKind.i64.wrap ((x:Nat):Int)=(x:Nat):=aK _ ⟨by omega,by omega⟩;clear h
 go_enter func14,ntmps14
 go_wp2_with fail;refine H.o.mono ?_;rintro e w' ⟨rfl,rfl⟩;go_wp2;go_ret;exact⟨rfl,rfl⟩
section
variable {o:Own}
def Pl (c:AC K)(h:SatE K n (λ_=>True) room w0 mb fs nx w o m V)(X:m.waits <:+ ws0)(b:nx<=549755813888)(Z:(fs.length+1)*2^n<=room){v:Nat}(Y:v<n):
 Cl 38 #[Pt mb,Iv v] w λx w''=>x=.returned (.tuple #[Iv nx,Iv 0])/\Goes K n (λ_=>True) room w0 mb (fs++[(nx,varF v)]) (nx+1) (W2 (SufW ws0)) o w w'':=by
 refine(LV c h ws0 X none (λ_ e=>by cases e) (λ_ e=>by cases e) (λev _=>M8 b ev) (by omega) v Y).mono ?_;rintro x w'' a;obtain⟨o2,m2,V2,U,O,I,H⟩:=Tr a ZE Z;exact⟨I,o2,m2,V2,U,O,H⟩
end
def l20A:List (Int×BF):=two++[(2,varF 0)]
def l20B:List (Int×BF):=l20A++[(3,varF 1)]
def l20F:BF:=orF (varF 0) (varF 1)
def l20C:List (Int×BF):=l20B++[(4,l20F)]
def Xa:C8 orF (DW 1) [varF 0,varF 1]=l20F:=by
 funext ρ
 show iteB (iteB false true (varF 0 ρ)) true (varF 1 ρ)=iteB (varF 0 ρ) true (varF 1 ρ)
 cases varF 0 ρ<;>cases varF 1 ρ<;>rfl
def Fi:allL [1,0] l20F=[[false,true],[true,false],[true,true]]:=by decide
def K5:chkE 2 l20F [1,0]=0:=by
 have h:∀z∈([1,0]:List Int),0<=z/\z<((2:Nat):Int):=by intro z H;simp at H;omega
 unfold chkE;rw[Ec h,Xx (by decide)];unfold cntE;rw[Xx h,Xx];intro v I _;rcases(show v=0\/v=1 by omega)with rfl|rfl<;>simp
def It (vs:List Nat):(intL vs).map Int.toNat=vs:=by
 unfold intL;rw[Y9];exact List.map_id _
def Fj (h:([1,0]:List Int)=intL vs):vs=[1,0]:=by
 rw[<-It vs,<-h];rfl
section
variable {rs:List (Value×List Bool)}
abbrev S20 (w:Wd)(mb:Nat)(nx:Int)(rs:List (Value×List Bool))(W:Wd):Prop:=SpS 2 400 w mb l20C nx [] rs W
def Xb (h:S20 w mb nx rs W)(U:nx<=1000):
 Cl 29 #[Pt mb,Iv 4,.slice (some (Av W.heap.size)) 2 2] (W.alloc (.cells #[Iv 1,Iv 0] 3)) λx w'=>∃v nx',x=.returned (.tuple #[v,Iv 0])/\nx'<=nx+200/\S20 w mb nx' (rs++[(v,[false,true])]) w':=by
 refine(h.ask (Ag W _) λo m V H g2 hs=>Pd hs H ⟨by simp[l20C,l20B,l20A,two],by simp[l20C,l20B,l20A,two]⟩ (kf:=4) (G:=l20F) (by simp[l20C]) (c:=2) (E4 W [1,0] (by simp)) (by simp) (λ_ x hx=>by cases hx;exact g2.none (Xs _)) (by omega) (by decide)).mono ?_
 ·rintro x w' ⟨v,e,nx',o',rfl,_,g1,I,_,g0⟩;rcases I with ⟨h1,_⟩|⟨_,vs,e1,⟨h2,_⟩|⟨ds,h2,rfl,h3,O⟩⟩
  . exact absurd K5 h1
  . rw[Fj e1,Fi]at h2;cases h2
  . rw[Fj e1,Fi]at h2;cases h2;exact⟨v,nx',rfl,g1,g0 _ h3 O⟩
def Pm (h:S20 w mb nx rs W)(a:nx<=1000){I:Value}(hk:NatV W1 I k)(H:Bw W W1)(O:∀q,I.ownBlock=some q->W.heap.size<=q):
 Cl 26 #[Pt mb,Iv 4,I,.slice (some (Av W1.heap.size)) 2 2] (W1.alloc (.cells #[Iv 1,Iv 0] 3)) λx w'=>∃v e nx',x=.returned (.tuple #[v,Iv e])/\nx'<=nx+200 /\
  ((k<3/\e=0/\∃ds,(allL [1,0] l20F)[k]?=some ds/\S20 w mb nx' (rs++[(v,ds)]) w')\/(3<=k/\e=2/\S20 w mb nx' rs w')):=by
 have g3:=H.trans ((Ag W1 (.cells #[Iv 1,Iv 0] 3)).mono H.size);refine(h.ask g3 λo m V U g1 hs=>Pg hs U ⟨by simp[l20C,l20B,l20A,two],by simp[l20C,l20B,l20A,two]⟩ (kf:=4) (G:=l20F) (by simp[l20C]) (c:=2) (E4 W1 [1,0] (by simp)) (by simp) (λ_ x hx=>by cases hx;exact g1.none H.size) (hk.below (Ag W1 _)) (λ_ q e=>g1.none (O q e)) (by omega) (by decide)).mono ?_;rintro x w' ⟨v,e,nx',o',rfl,_,g0,X,Y,g2⟩;rcases X with ⟨h1,_⟩|⟨_,vs,e1,⟨h2,rfl,_⟩|⟨ds,h2,rfl,h3,Z⟩⟩
 . exact absurd K5 h1
 . rw[Fj e1,Fi]at h2;exact⟨v,2,nx',rfl,g0,.inr ⟨h2,rfl,Y⟩⟩
 . rw[Fj e1]at h2;refine⟨v,0,nx',rfl,g0,.inl ⟨?_,rfl,ds,h2,g2 _ h3 Z⟩⟩;rw[Fi]at h2;exact(XI.1 h2).1
def Xc (h:S20 w mb nx rs W)(X:nx<=1000)(H:W1=W.alloc (.cells #[.bool true,.bool true] 4)):
 Cl 11 #[Pt mb,Iv 4,.slice (some (Av W.heap.size)) 2 2,.slice (some (Av W1.heap.size)) 2 2] (W1.alloc (.cells #[Iv 1,Iv 0] 3)) λx w'=>∃v nx',x=.returned (.tuple #[v,Iv 0])/\NatV w' v 2/\S20 w mb nx' rs w':=by
 have g1:Bw W W1:=by rw[H];exact Ag _ _
 have g4:=g1.trans ((Ag W1 (.cells #[Iv 1,Iv 0] 3)).mono g1.size);have g0:W1.heap[W.heap.size]?=some (.cells #[.bool true,.bool true] 4 (0,0)):=by rw[H];exact Xv _ _
 have g3:Ay W1 (.slice (some (Av W.heap.size)) 2 2) [true,true]:=⟨_,2,rfl,⟨by simp,λk hk=>by
  rcases(show k=0\/k=1 by simp at hk;omega)with rfl|rfl
  . exact⟨_,0,rfl,by rw[Xw _ _ 0 _ _ _ g0];rfl⟩
  . exact⟨_,0,rfl,by rw[Xw _ _ 1 _ _ _ g0];rfl⟩⟩,λe=>by cases e⟩
 refine(h.ask g4 λo m V I g2 hs=>Pk hs I ⟨by simp[l20C,l20B,l20A,two],by simp[l20C,l20B,l20A,two]⟩ (kf:=4) (G:=l20F) (by simp[l20C]) (c:=2) (E4 W1 [1,0] (by simp)) (by simp) (λ_ x hx=>by cases hx;exact g2.none g1.size) (g3.below (Ag W1 _)) (λ_ q e=>by cases e;exact g2.none (Xs _)) (by omega) (by decide)).mono ?_;rintro x w' ⟨v,e,nx',o',rfl,_,g5,O,U,_⟩;rcases O with ⟨h1,_⟩|⟨_,h1,_⟩|⟨_,vs,e1,_,⟨h2,_⟩|⟨k,h2,rfl,h3⟩⟩
 . exact absurd K5 h1
 . exact absurd rfl h1
 . rw[Fj e1,show l20F (asg [1,0] [true,true])=true by decide]at h2;cases h2
 ·rw[Fj e1,Fi]at h2;refine⟨v,nx',rfl,?_,U⟩;have hk:k=2:=by
   have:=(XI.1 h2).1;rcases(show k=0\/k=1\/k=2 by simp at this;omega)with rfl|rfl|rfl
   . simp at h2
   . simp at h2
   . rfl
  rw[<-hk];exact h3
end
def Pn {T:Wd}{a:Option Addr}{b1 b2:Bool}(h:AM W a [b1,b2])(H:T=W.alloc (.cells #[.bool b1,.bool b2] 4)):
 Cl 16 #[.slice a 2 c,.slice (some (Av W.heap.size)) 2 2] T (Bl (.bool true) T):=by
 have hb:Bw W T:=by rw[H];exact Ag _ _
 have g0:T.heap[W.heap.size]?=some (.cells #[.bool b1,.bool b2] 4 (0,0)):=by rw[H];exact Xv _ _
 have hs:=Is [b1,b2] [b1,b2] rfl a (some (Av W.heap.size)) c 2 T (h.below hb) ⟨by simp,λk hk=>by
  rcases(show k=0\/k=1 by simp at hk;omega)with rfl|rfl
  . exact⟨_,0,rfl,by rw[Xw _ _ 0 _ _ _ g0];rfl⟩
  . exact⟨_,0,rfl,by rw[Xw _ _ 1 _ _ _ g0];rfl⟩⟩
 rw[XQ rfl]at hs;exact hs
def CV (w:Wd):Cl 8 #[] w (Bl (.bool true) w):=by
 have g4:=Hd (N7 (K:=As) 2 400 w (by omega) (by omega) (by omega));have ge:Hq (∀mb W,StF As 2 400 w mb two 2 [] [] W->Cl 38 #[Pt mb,Iv 0] W λx w'=>x=.returned (.tuple #[Iv 2,Iv 0])/\StF As 2 400 w mb l20A 3 [] [] w'):=
  Hd λmb W g=>g.go λo m V X hs=>Pl Cf hs X (by omega) (by decide) (v:=0) (by omega)
 have A:Hq (∀mb W,StF As 2 400 w mb l20A 3 [] [] W->Cl 38 #[Pt mb,Iv 1] W λx w'=>x=.returned (.tuple #[Iv 3,Iv 0])/\StF As 2 400 w mb l20B 4 [] [] w'):=
  Hd λmb W g=>g.go λo m V X hs=>Pl Cf hs X (by omega) (by decide) (v:=1) (by omega)
 have gf:Hq (∀mb W,StF As 2 400 w mb l20B 4 [] [] W->Cl 39 #[Pt mb,.slice (some (Av W.heap.size)) 2 2] (W.alloc (.cells #[Iv 2,Iv 3] 3)) λx w'=>x=.returned (.tuple #[Iv 4,Iv 0])/\S20 w mb 5 [] w'):=by
  refine Hd λmb W g=>?_
  obtain⟨o,m,V,h1,h2,_⟩:=g;have hb:=Ag W (.cells #[Iv 2,Iv 3] 3)
  have ha:ArgL l20B w (W.alloc (.cells #[Iv 2,Iv 3] 3)) o (some (Av W.heap.size)) [2,3] [varF 0,varF 1]:=⟨E4 W [2,3] (by simp),λx hx=>by
   cases hx;exact⟨by simp,h2.chg.size,h2.lt.none (Xs _)⟩,rfl,λi hi=>by
   rcases(show i=0\/i=1 by simp at hi;omega)with rfl|rfl<;>simp[l20B,l20A]⟩
  refine(TZ (c:=2) Cf (h2.below hb) ha h1 (by omega) (by decide)).mono ?_;rintro x w' ⟨T,o',m',V',q2,S,h⟩;rw[show C8 orF (DW 1) [varF 0,varF 1]=l20F from Xa]at h;exact⟨T,o',m',V',S,h,λp hp=>by cases hp⟩
 go_enter func8,ntmps8
 go_wp2_with fail;refine g4.o.mono ?_;rintro x w1 ⟨mb,rfl,o,m,V,g8,g7,_,gn⟩;have M:=Hd (ge.o mb w1 (StF.of (by rw[g7];exact ZU _) g8 (by simp)));clear g8 g7 gn g4 ge;go_wp2_with fail;refine M.o.mono ?_;rintro x w2 ⟨rfl,h2⟩;have L:=Hd (A.o mb w2 h2);clear h2 M A;go_wp2_with fail;refine L.o.mono ?_;rintro x Q ⟨rfl,h3⟩;have J:=Hd (gf.o mb Q h3);clear h3 L gf;go_wp2_with fail;refine J.o.mono ?_;rintro x w4 ⟨rfl,q⟩;have G:=Hd (Xb q (by omega));clear q J;go_wp2_with fail;refine G.o.mono ?_;rintro x N ⟨v5,nx5,rfl,gu,l⟩;have g2:=Hd l;have y:=Hd (Ib (w:=N) (n:=1) (by omega));clear l G;go_wp2_with fail;refine y.o.mono ?_;rintro x w6 ⟨⟨u6,rfl,n6,f⟩,gc⟩;have F:=Hd (Pm g2.o (by omega) n6 gc f);clear n6 gc f g2 y;go_wp2_with fail;refine F.o.mono ?_;rintro x d ⟨v7,H,U,rfl,gt,hh⟩;obtain⟨rfl,ds7,g3,h7⟩:H=0/\∃ds,(allL [1,0] l20F)[1]?=some ds/\S20 w mb U ([]++[(v5,[false,true])]++[(v7,ds)]) d:=by
  rcases hh with ⟨_,a,b⟩|⟨c,_⟩
  . exact⟨a,b⟩
  . omega
 obtain rfl:ds7=[true,false]:=by rw[Fi]at g3;simpa using g3.symm
 have g1:=Hd h7;have z:=Hd (Ib (w:=d) (n:=3) (by omega));clear h7 F g3 hh;go_wp2_with fail;refine z.o.mono ?_;rintro x w8 ⟨⟨u8,rfl,n8,e⟩,B⟩;have E:=Hd (Pm g1.o (by omega) n8 B e);clear n8 B e g1 z;go_wp2_with fail;refine E.o.mono ?_;rintro x I ⟨v9,e9,O,rfl,gr,hh⟩;obtain⟨rfl,h9⟩:e9=2/\S20 w mb O ([]++[(v5,[false,true])]++[(v7,[true,false])]) I:=by
  rcases hh with ⟨c,_⟩|⟨_,a,b⟩
  . omega
  . exact⟨a,b⟩
 have Y:=Hd (Xc h9 (by omega) rfl);rw[show(I.alloc (.cells #[.bool true,.bool true] 4)).heap.size=I.heap.size+1 by simp]at Y;clear h9 E hh;go_wp2_with fail;refine Y.o.mono ?_;rintro x wb ⟨R,nxb,rfl,nb,hb⟩;have r:=Hd hb.below0;obtain⟨_,_,_,_,_,g0⟩:=hb;obtain⟨a5,c5,D,k,_⟩:=(g0 (v5,[false,true]) (by simp)).1;obtain⟨a7,c7,H,j,_⟩:=(g0 (v7,[true,false]) (by simp)).1;dsimp only at D H;subst D H;have g2:=Hd (Pn (c:=c5) k rfl);have t:Hq (∀W,Bw wb W->AM W a7 [true,false]):=Hd λW hb=>j.below hb
 have u:Hq (∀W,Bw wb W->NatV W R 2):=Hd λW hb=>nb.below hb
 have gk:=Hd (Ag wb (.cells #[.bool false,.bool true] 4));clear g0 k j nb Y;go_wp2_with fail;refine g2.o.mono ?_;rintro x Z ⟨rfl,C⟩;have g6:=Hd (gk.o.trans (C.mono gk.o.size));have g1:=Hd (Pn (c:=c7) (t.o Z g6.o) rfl);have g5:=Hd (Ag Z (.cells #[.bool true,.bool false] 4));clear C g2 t;go_wp2_with fail;refine g1.o.mono ?_;rintro x wd ⟨rfl,g9⟩;have s:=Hd (g6.o.trans ((g5.o.trans (g9.mono g5.o.size)).mono g6.o.size));have gp:=Hd (FW (u.o wd s.o) (by omega));clear g9 g1 u;go_wp2_with fail;refine gp.o.mono ?_;rintro x w' ⟨rfl,rfl⟩;have gq:=Hd (r.o.trans (s.o.mono r.o.size));go_wp2;go_ret;exact⟨rfl,gq.o⟩
section
variable {o:Own}
end
section
variable {a:Option Addr}
end
def Xn (hk:k<256):IntKind.i64.wrap ((k:Nat):Int)=(k:Int):=by
 simp[IntKind.wrap,IntKind.bits];omega
section
def Xo (h:n<=16)(h0:(0,λ_=>false)∈fs)(h1:(1,λ_=>true)∈fs){P:Nat->Prop}(I:LawR P n fs w vl vx hs)(k:Nat)(hk:k<256):
 Cl 10 #[vl,vx,Iv n,.int .u8 k] w λx w'=>∃a F v,x=.returned (.tuple #[Iv a,v])/\(a,F)∈fs/\Ay w' v (tabB n F)/\(∀g,v.ownBlock=some g->P g\/w.heap.size<=g/\∃H,w'.heap[g]?=some (.cells H 4 (0,0)))/\Bw w w':=by
 obtain⟨E,cl,rfl,hl⟩:=I.l;obtain⟨C,B,rfl,hx⟩:=I.x;have g6:=I.small;have g5:=Hd I.sub;obtain⟨L,O⟩:=Ex hs.length;have gf:=Hd O;rw[<-O]at g6⊢;clear I;obtain⟨i,hi,hI⟩:∃i,i<L+2/\Int.tmod (k:Int) ((L:Int)+2)=((i:Nat):Int):=by
  refine⟨(Int.tmod (k:Int) ((L:Int)+2)).toNat,?_,?_⟩
  . have:=Int.tmod_lt_of_pos (k:Int) (show(0:Int)<(L:Int)+2 by omega);have:=Int.tmod_nonneg ((L:Int)+2) (show(0:Int)<=(k:Int)by omega);omega
  . have:=Int.tmod_nonneg ((L:Int)+2) (show(0:Int)<=(k:Int)by omega);omega
 have ge:=Xn hk;have z:(((L:Int)+2) == 0)=false:=by simp;omega
 by_cases e:L<=i
 ·have g7:(i:Int)>=(L:Int):=by omega
  obtain⟨b,hb⟩:=Ex (decide ((i:Int)>(L:Int)):Bool);have g3:(((i:Int)-(L:Int)),λ_=>b)∈fs:=by
   rcases(show i=L\/i=L+1 by omega)with rfl|rfl
   . rw[hb,XW (by omega),Int.sub_self];exact h0
   . rw[hb,XQ (by omega),show((L+1:Nat):Int)-(L:Int)=1 by omega];exact h1
  have j:=Hd g3;have m:=Hd (JH b n h w);have u:2^n<=65536:=X8 (by omega) h;have y:decide ((i:Int)>(L:Int))=b:=hb.symm;have g9:decide ((L:Int)<(i:Int))=b:=hb.symm;have g8:decide (L<i)=b:=by rw[hb];simp
  obtain⟨D,Z⟩:=Ex ((i:Int)-(L:Int));have A:IntKind.i64.wrap ((i:Int)-(L:Int))=D:=by
   rw[Z];simp[IntKind.wrap,IntKind.bits];omega
  have t:=Hd Z;clear O hl hx h0 h1 g3 hb e Z
  go_enter func10,ntmps10
  go_wp2_with fail;refine m.o.mono ?_;rintro x w1 ⟨g,rfl,g0,hb⟩;have U:Hq (∃a F v,Ending.returned (.tuple #[Iv D,.slice (some (Av g)) (2^n) (2^n)])=.returned (.tuple #[Iv a,v])/\(a,F)∈fs/\Ay w1 v (tabB n F)/\(∀g,v.ownBlock=some g->P g\/w.heap.size<=g/\∃H,w1.heap[g]?=some (.cells H 4 (0,0)))/\Bw w w1):=
   Hd ⟨_,λ_=>b,_,rfl,by rw[t.o];exact j.o,g0.boolsIs (by rw[BU];omega),λq f=>.inr ⟨by cases f;exact(g0.lt g rfl).1,g0.typed q f⟩,hb⟩
  clear g0 hb m j;go_wp2
  go_ret2
  exact U.o
 ·have gc:i<L:=by omega
  have g7:¬ (i:Int)>=(L:Int):=by omega
  obtain⟨b1,Y,rfl,c1⟩:=hl.cells i (by simp;omega);obtain⟨b2,X,v2,rfl,c2,g2,hp2⟩:=hx.cells i (by simp;omega);have g1:i<hs.length:=by omega
  have d:at0 (hs.map Prod.fst) i=hs[i].1:=by rw[A8 (by simpa using g1)];simp
  have c:(hs.map λp=>tabB n p.2).getD i []=tabB n hs[i].2:=by simp[List.getD,g1]
  rw[d]at c1;rw[c]at g2;have U:Hq (∀w',Bw w w'->∃a F v,Ending.returned (.tuple #[Iv hs[i].1,v2])=.returned (.tuple #[Iv a,v])/\(a,F)∈fs/\Ay w' v (tabB n F)/\(∀g,v.ownBlock=some g->P g\/w.heap.size<=g/\∃H,w'.heap[g]?=some (.cells H 4 (0,0)))/\Bw w w'):=
   Hd λw' hb=>⟨hs[i].1,hs[i].2,v2,rfl,g5.o _ (XM g1),g2.below hb,λg s=>.inl (hp2 g s),hb⟩
  obtain⟨k1,g4⟩:=Ex (hs[i].1);rw[<-g4]at c1 U;clear O hl hx g2 hp2 d c g4 e g1 h0 h1
  go_enter func10,ntmps10
  go_upto_region 4 with fail;refine AJ (λW:Wd=>W.cell? (Aw b1 (Y+i))=some (Iv k1)/\W.cell? (Aw b2 (X+i))=some v2) false 10 [(0,false),(1,false),(2,false),(3,false),(4,false),(5,false),(6,false),(7,false),(8,false),(9,false)] (by kernel_rfl) (by kernel_rfl) ⟨c1,c2⟩ ?_;simp only[planned,AI]
  iterate 10
   refine A0 rfl ?_;apply Exists.intro;refine⟨λw' r=>?_,?_⟩
   . obtain⟨h1,h2⟩:=r;go_simp;rfl
   simp only[Ab]
  refine B6 ?_;go_wp2
  go_ret2
  exact U.o _ (An w 1)
end
section
variable {Wt:List Ev->Int->Prop}{o:Own}
def K7 (h:LawT K n Od room w0 mb fs nx Wt hs hs W o m V vl vx)(I:∀p∈hs,p∈fs)(X:n<=16)(hl:hs.length<=100)(k:Nat)(hk:k<256):
 Cl 10 #[vl,vx,Iv n,.int .u8 k] W λx w'=>∃a F v,x=.returned (.tuple #[Iv a,v])/\(a,F)∈fs/\LawF w' o v (tabB n F)/\Bw W w':=by
 refine(Xo X h.b2.zero h.b2.one (h.row I (by omega)) k hk).mono ?_;rintro x w' ⟨a,F,v,rfl,h1,h2,h3,U⟩;refine⟨a,F,v,rfl,h1,⟨h2,λg Y=>?_⟩,U⟩;rcases h3 g Y with ⟨_,O,b,H,Z⟩|⟨c,H,O⟩
 . exact⟨X5 O U.size,b,H,(U.block g O).trans Z⟩
 . exact⟨(Xt.1 O).1,h.sat.lt.none c,H,O⟩
end
open Go.RowKit Go.Deep Go.ChangeShapes Go.WideShapes
def wfI {x:Int}(h:(Lit.int .i64 x).wf=true):okI x:=by
 unfold okI;simp only[Lit.wf,IntKind.min,IntKind.max,IntKind.signed,IntKind.bits,XH,Yk,Y1]at h;omega
def FX (k:Nat):((Aw b off):Addr).add k=(Aw b (off+k)):=by unfold Addr.add;split<;>simp_all
def add0 (a:Addr):a.add 0=a:=by simp[Addr.add]
def FY {a:Addr}(h:w.cell? a=some v):a.spot=none:=by
 obtain⟨b,off,spot⟩:=a;cases spot with
 | none=>rfl
 | some s=>simp[World.cell?]at h;split at h<;>simp at h
def Xp {p:Nat->Ev->Prop}(h:∀i,i<n->∃x,p i x):∃f:Nat->Ev,∀i,i<n->p i (f i):=by
 classical
 refine⟨λi=>if hi:i<n then Classical.choose (h i hi)else⟨0,0,0⟩,λi hi=>?_⟩;simp only[dif_pos hi];exact aR (h i hi)
def FZ {H:Type}{enc:TypeId×Value->H}{base:Nat}{e:TypeId}{x:DataW H×List MemPlace}(I:P.underlying t=some (.slice e))(h:DataW.trod enc P w base spare held fuel t cs=some x):
 cs=[.slice none 0 0]\/∃(a:Addr) (len cap n:Nat),cs=[.slice (some a) len cap]/\len<=cap/\cap<=maxLen/\fuel=n+1/\∀i,i<len->∃cs' y,w.cells? base (a.add (i*P.cellsOf e)) (P.cellsOf e)=some cs'/\DataW.trod enc P w base spare held n e cs'=some y:=by
 rcases DataW.trod_slice I h with ⟨h0,_⟩|⟨a,len,cap,elems,rest,n,O,e1,_,_,hl,U,g1,g0,_⟩
 . exact .inl h0
 . refine .inr ⟨a,len,cap,n,e1,hl,U,O,λi hi=>?_⟩;have:=g0 i hi;rw[Xy (by omega)]at this;obtain⟨cs',h1,h2⟩:=Option.bind_eq_some_iff.1 this;exact⟨cs',_,h1,h2⟩
abbrev aP:=@DataW.trod_struct
abbrev Zj:=@DataW.trod_int
abbrev aQ:=@World.cells?_some
def open_expr {H:Type}{enc:TypeId×Value->H}{base:Nat}:∀(fuel:Nat) {cs:List Value} {x:DataW H×List MemPlace},
 DataW.trod enc prog w base spare held fuel 78 cs=some x->∃e U O I,cs=[U,O,I]/\A6 w e (.agg #[U,O,I]):=by
 intro fuel
 induction fuel using Nat.strongRecOn with
 | _ fuel IH=>
   intro cs x h;obtain⟨xs,k,hk,g8,g5,g6,X⟩:=aP underlying78 h;have c1:prog.cellsOf 3=1:=by kernel_rfl
   have c2:prog.cellsOf 23=1:=by kernel_rfl
   have d:prog.cellsOf 78=3:=by kernel_rfl
   rw[d]at g5
   match xs,g6,cs,g5 with
   | [y0,y1,y2],_,[v0,v1,v2],_=>
     have g0:=X 0 _ rfl;have g1:=X 1 _ rfl;have g2:=X 2 _ rfl;simp[c1,c2]at g0 g1 g2;obtain⟨n0,e0,_,w0⟩:=Zj underlying3 g0;obtain⟨Z,e1,_,w1⟩:=Zj underlying3 g1;simp only[Yw,Z9]at e0 e1;subst e0 e1;rcases FZ underlying23 g2 with e2|⟨a,len,cap,n,e2,hl,g,g9,hx⟩
     . simp only[Yw,Z9]at e2;subst e2;exact⟨.mk n0 Z 0 (λ_=>.nil),_,_,_,rfl,by unfold A6;exact⟨none,0,rfl,wfI w0,wfI w1,by omega,λk hk=>by omega⟩⟩
     ·simp only[Yw,Z9]at e2;subst e2;have each:∀i,i<len->∃q:ExT,∃U O I,w.cell? (a.add (i*3))=some U/\w.cell? ((a.add (i*3)).add 1)=some O/\w.cell? ((a.add (i*3)).add 2)=some I/\A6 w q (.agg #[U,O,I]):=by
       intro i hi;obtain⟨cs',y,h1,h2⟩:=hx i hi;rw[d]at h1;obtain⟨_,g7,g3⟩:=aQ h1;obtain⟨e,U,O,I,rfl,Y⟩:=IH n (by omega) h2;have f0:=g3 0 (by omega);have f1:=g3 1 (by omega);have f2:=g3 2 (by omega);rw[add0]at f0;exact⟨e,U,O,I,by simpa using f0,by simpa using f1,by simpa using f2,Y⟩
      obtain⟨q,c⟩:=choose_lt each;refine⟨.mk n0 Z len q,_,_,_,rfl,?_⟩;unfold A6;refine⟨some a,cap,rfl,wfI w0,wfI w1,by unfold maxLen at g;omega,λi hi=>?_⟩;obtain⟨U,O,I,f0,f1,f2,Y⟩:=c i hi;have g4:a.spot=none:=by
       obtain⟨_,_,_,f,_⟩:=c 0 (by omega);have:=FY f;simpa [Addr.add]using this
      obtain⟨b,off,spot⟩:=a;dsimp only at g4;subst g4;simp only[FX]at f0 f1 f2;exact⟨b,off,U,O,I,rfl,f0,f1,f2,Y⟩
def Xq {H:Type}{enc:TypeId×Value->H}{base:Nat}{x:DataW H×List MemPlace}
 (h:DataW.trod enc prog w base spare held fuel 23 cs=some x):∃a l cap,cs=[.slice a l.length cap]/\FH w a l:=by
 have d:prog.cellsOf 78=3:=by kernel_rfl
 rcases FZ underlying23 h with e2|⟨a,len,cap,n,e2,hl,c,g4,hx⟩
 . exact⟨none,[],0,e2,⟨by simp,λk hk=>by simp at hk⟩⟩
 ·subst e2;have each:∀i,i<len->∃q:ExT,∃U O I,w.cell? (a.add (i*3))=some U/\w.cell? ((a.add (i*3)).add 1)=some O/\w.cell? ((a.add (i*3)).add 2)=some I/\A6 w q (.agg #[U,O,I]):=by
   intro i hi;obtain⟨cs',y,h1,h2⟩:=hx i hi;rw[d]at h1;obtain⟨_,g3,g0⟩:=aQ h1;obtain⟨e,U,O,I,rfl,X⟩:=open_expr n h2;have f0:=g0 0 (by omega);have f1:=g0 1 (by omega);have f2:=g0 2 (by omega);rw[add0]at f0;exact⟨e,U,O,I,by simpa using f0,by simpa using f1,by simpa using f2,X⟩
  obtain⟨q,Y⟩:=choose_lt each;refine⟨some a,(List.range len).map q,cap,by simp,⟨by unfold maxLen at c;simp;omega,λi hi=>?_⟩⟩;have g2:i<len:=by simpa using hi
  obtain⟨U,O,I,f0,f1,f2,X⟩:=Y i g2;have g1:a.spot=none:=by
   obtain⟨_,_,_,Z,_⟩:=Y 0 (by omega);have:=FY Z;simpa [Addr.add]using this
  obtain⟨b,off,spot⟩:=a;dsimp only at g1;subst g1;simp only[FX]at f0 f1 f2;exact⟨b,off,U,O,I,rfl,f0,f1,f2,by simpa using X⟩
def open_evs {H:Type}{enc:TypeId×Value->H}{base:Nat}{x:DataW H×List MemPlace}
 (h:DataW.trod enc prog w base spare held fuel 24 cs=some x):∃a l cap,cs=[.slice a l.length cap]/\EvsAt w a l/\(∀ev∈l,okI ev.after/\okI ev.kind/\okI ev.level)/\(a=none->cap=0)/\l.length<=cap/\cap<=maxLen:=by
 have c1:prog.cellsOf 3=1:=by kernel_rfl
 have c:prog.cellsOf 76=3:=by kernel_rfl
 rcases FZ underlying24 h with e2|⟨a,len,cap,n,e2,hl,U,d,hx⟩
 . exact⟨none,[],0,e2,⟨by simp,λk hk=>by simp at hk⟩,by simp,λ_=>rfl,by simp,by simp⟩
 ·subst e2;have each:∀i,i<len->∃q:Ev,w.cell? (a.add (i*3))=some (Iv q.after)/\w.cell? ((a.add (i*3)).add 1)=some (Iv q.kind)/\w.cell? ((a.add (i*3)).add 2)=some (Iv q.level)/\okI q.after/\okI q.kind/\okI q.level:=by
   intro i hi;obtain⟨cs',y,h1,h2⟩:=hx i hi;rw[c]at h1;obtain⟨_,g5,g3⟩:=aQ h1;obtain⟨xs,k,hk,g9,_,g6,O⟩:=aP underlying76 h2
   match xs,g6,cs',g5 with
   | [y0,y1,y2],_,[v0,v1,v2],_=>
     have g0:=O 0 _ rfl;have g1:=O 1 _ rfl;have g2:=O 2 _ rfl;simp[c1]at g0 g1 g2;obtain⟨n0,e0,_,w0⟩:=Zj underlying3 g0;obtain⟨Z,e1,_,w1⟩:=Zj underlying3 g1;obtain⟨Y,e2,_,w2⟩:=Zj underlying3 g2;simp only[Yw,Z9]at e0 e1 e2;subst e0 e1 e2;have f0:=g3 0 (by omega);have f1:=g3 1 (by omega);have f2:=g3 2 (by omega);rw[add0]at f0;exact⟨⟨n0,Z,Y⟩,by simpa using f0,by simpa using f1,by simpa using f2,wfI w0,wfI w1,wfI w2⟩
  obtain⟨q,I⟩:=Xp each;refine⟨some a,(List.range len).map q,cap,by simp,⟨by unfold maxLen at U;simp;omega,λi hi=>?_⟩,?_,by simp,by simpa using hl,U⟩
  ·have g7:i<len:=by simpa using hi
   obtain⟨f0,f1,f2,_⟩:=I i g7;have g4:a.spot=none:=by
    obtain⟨X,_⟩:=I 0 (by omega);have:=FY X;simpa [Addr.add]using this
   obtain⟨b,off,spot⟩:=a;dsimp only at g4;subst g4;simp only[FX]at f0 f1 f2;exact⟨b,off,rfl,by simpa using f0,by simpa using f1,by simpa using f2⟩
  . intro ev g8;obtain⟨i,hi,rfl⟩:=X6.1 g8;exact(I i (by simpa using hi)).2.2.2
def open_ask {H:Type}{enc:TypeId×Value->H}{base:Nat}{cs:Array Value}{x:DataW H×List MemPlace}(i:v=.agg cs)
 (h:DataW.trod enc prog w base (λ_=>true) held fuel 26 v.cells.toList=some x):∃q X Z U Y d I,v=askV q X Z U Y d I/\AskAt w q X Z U/\(∀ev∈q.plan,okI ev.after/\okI ev.kind/\okI ev.level)/\(X=none->Y=0)/\(U=none->I=0)/\q.plan.length<=I/\I<=maxLen:=by
 subst i;obtain⟨xs,k,hk,u,g5,g7,O⟩:=aP underlying26 h;have c1:prog.cellsOf 3=1:=by kernel_rfl
 have c2:prog.cellsOf 22=1:=by kernel_rfl
 have s:prog.cellsOf 23=1:=by kernel_rfl
 have r:prog.cellsOf 24=1:=by kernel_rfl
 have t:prog.cellsOf 26=4:=by kernel_rfl
 rw[t]at g5;obtain⟨cl⟩:=cs;simp only[Value.cells]at g5 O
 match xs,g7,cl,g5 with
 | [y0,y1,y2,y3],_,[v0,v1,v2,v3],_=>
   have g0:=O 0 _ rfl;have g1:=O 1 _ rfl;have g2:=O 2 _ rfl;have g3:=O 3 _ rfl;simp[c1,c2,s,r]at g0 g1 g2 g3;obtain⟨n0,e0,_,w0⟩:=Zj underlying3 g0;simp only[Yw,Z9]at e0;subst e0;obtain⟨X,zs,Y,e1,ge,gb⟩:∃a zs c,v1=.slice a zs.length c/\Aj w a zs/\(a=none->c=0):=by
    rcases open_ints underlying22 underlying3 (by kernel_rfl) g1 with ⟨g4,_⟩|⟨x,l,c,zs,g4,_,hl,j,g,_,g6,g8⟩
    . simp at g4;subst g4;obtain⟨a,c,e,h1,h2⟩:=sliceIs_of_row (w:=w) (a:=none) (len:=0) (cap:=0) (.inl ⟨rfl,rfl,rfl,rfl⟩);exact⟨a,_,c,e,h1,h2⟩
    . simp at g4;subst g4;obtain⟨a,c,e,h1,h2⟩:=sliceIs_of_row (w:=w) (.inr ⟨_,rfl,hl,j,by simpa using g,g6,g8⟩);exact⟨a,_,c,e,h1,h2⟩
   obtain⟨Z,es,d,e2,m⟩:=Xq g2;obtain⟨U,b,I,f,gf,g9,p,n,gc⟩:=open_evs g3;simp only[Yw,Z9]at e2 f;subst e1 e2 f;exact⟨⟨n0,zs,es,b⟩,X,Z,U,Y,d,I,rfl,⟨wfI w0,ge,m,gf⟩,g9,gb,p,n,gc⟩
end Go.Proofs.YtnphndlbfeagbaaGreat
