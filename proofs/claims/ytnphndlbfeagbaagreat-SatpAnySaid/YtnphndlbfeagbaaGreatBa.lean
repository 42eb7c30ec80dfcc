/- More contracts of the program's functions. -/
import Derived.Test.YtnphndlbfeagbaaGreatB9
set_option linter.unusedSimpArgs false
set_option linter.unusedVariables false
set_option linter.unusedSectionVars false
set_option linter.unnecessarySimpa false
set_option maxRecDepth 100000
set_option maxHeartbeats 8000000
namespace Go.Proofs.YtnphndlbfeagbaaGreat
open Go.Proofs.Tryz
open Go.RowKit
abbrev aC:=@List.getElem?_cons_succ
section
variable {K:Law}{n:Nat}{Od:List Nat->Prop}{room:Nat}{w0:Wd}{mb:Nat}{fs:List (Int×BF)}{nx:Int}{Wt:List Ev->Int->Prop}{hl hx hs:List (Int×BF)}{W W' w:Wd}{o o':Own}{m m':ManD}{V V':Nat->BF}{vl vx v' v:Value}{p:Int×BF}
theorem LawF.tab {F:BF}(h:LawF W o v (tabB n F)):∃a c,v=.slice a (2^n) c/\AM W a (tabB n F):=by
 obtain⟨a,c,e,h1,_⟩:=h.is;rw[BU]at e;exact⟨a,c,e,h1⟩
end
theorem TabA.below {n:Nat}{W W':Wd}{v:Value}{F:BF}(h:TabA n W v F)(hb:Bw W W'):TabA n W' v F:=by
 obtain⟨a,c,e,h1⟩:=h;exact⟨a,c,e,h1.below hb⟩
theorem TabA.is {n:Nat}{W:Wd}{v:Value}{F:BF}(h:Ay W v (tabB n F)):TabA n W v F:=by
 obtain⟨a,c,e,h1,_⟩:=h;rw[BU]at e;exact⟨a,c,e,h1⟩

theorem B9.write {K:Law}{C D:Nat->Prop}{o o':Own}{w w' w'':Wd}{mb:Nat}{m m':ManD}{V V':Nat->BF}(h:B9 C K o w mb m V o' w' m' V')(H:Wr D w' w'')(O:∀k,D k->C k/\o k=none/\k<w.heap.size):B9 C K o w mb m V o' w'' m' V':=by
 obtain⟨s,U⟩:=h.is;refine⟨⟨s,U.keep (λg r I=>H.keep g (h.lt g r I) (λe=>?_)) (λ_ _ h=>h)⟩,h.lt.mono H.size,h.chg.trans (ChgX.of_wr (C:=D) H o' (λ_ _ e=>e)) (λk _ e=>(O k e).1),h.ok,h.ext,h.hs,h.next⟩;have:=h.chg.none' (O g e).2.2 (O g e).2.1;rw[this]at I;cases I

theorem bool_iff (p:Prop):∃b:Bool,b=true↔p:=by
 classical
 exact⟨decide p,by simp⟩
section
variable {K:Law}{n room:Nat}{w0 w W w':Wd}{mb:Nat}{fs fs':List (Int×BF)}{nx nx':Int}{o:Own}{m:ManD}{V:Nat->BF}{ws0:List Ev}{rs:List (Value×BF)}{f:Nat}{args:Array Value}
theorem StF.dep (h:StF K n room w0 mb fs nx ws0 rs w){k:Int}{F:BF}(hk:(k,F)∈fs):DepF n F:=by
 obtain⟨o,m,V,_,h2,_⟩:=h;exact h2.dep hk
end
theorem enters_any1 (args:Array Value)(w:Wd):(callFunc 57 args).run prog w=.ok (.enter 57 args) w:=YF func57 (by kernel_rfl) rfl args w
def BoAny (bl bf bn:Nat)(k:Int)(W:Wd):Prop:=(∃I ll H,W.heap[bl]?=some (.cells #[.slice I ll H] 51 (0,0)))/\W.cell? (Av bf)=some (Iv k)/\∃z:Bool,W.heap[bn]?=some (.cells #[.bool z] 4 (0,0))
abbrev CAny (bl bf bn:Nat):Nat->Prop:=λc=>c=bl\/c=bf\/c=bn

def stA (F:BF)(ls:List (Int×Bool)):BF:=ls.foldl (λG p=>cofF G p.1.toNat p.2) F
theorem stA_snoc (F:BF)(ls:List (Int×Bool))(p:Int×Bool):stA F (ls++[p])=cofF (stA F ls) p.1.toNat p.2:=by unfold stA;rw[Zz];rfl
theorem stA_succ (F:BF)(ls:List (Int×Bool)){i:Nat}(h:i<ls.length):stA F (ls.take (i+1))=cofF (stA F (ls.take i)) ls[i].1.toNat ls[i].2:=by
 rw[XA h,stA_snoc]
theorem stA_dep {n:Nat}{F:BF}(h:DepF n F):∀ls,DepF n (stA F ls):=λls=>by
 induction ls generalizing F with
 | nil=>exact h
 | cons p r H=>exact H (JO h p.1.toNat p.2)
structure PathA (n:Nat)(os:List Nat)(F:BF)(ls:List (Int×Bool)):Prop where
 at_:∀i (h:i<ls.length),topR n (stA F (ls.take i)) os=ls[i].1/\0<=ls[i].1/\ls[i].1<n
theorem PathA.nil (n:Nat)(os:List Nat)(F:BF):PathA n os F []:=⟨λi h=>by simp at h⟩
theorem PathA.snoc {n:Nat}{os:List Nat}{F:BF}{ls:List (Int×Bool)}(h:PathA n os F ls){v:Nat}{y:Bool}(H:topR n (stA F ls) os=(v:Nat))(I:v<n):PathA n os F (ls++[((v:Int),y)]):=
 ⟨λi hi=>by
  rcases X9 i ls.length with e|e
  . rw[XU e,List.take_append_of_le_length (aD e)];exact h.at_ i e
  ·have e2:i=ls.length:=by simp at hi;omega
   subst e2;rw[XV (Xs _),List.take_left];simp only[Nat.sub_self,List.getElem_cons_zero];exact⟨H,by omega,by omega⟩⟩
def pV:List (Value×Value)->List Value
 | []=>[]
 | p::r=>p.1::p.2::pV r
theorem pV_append (l:List (Value×Value))(p:Value×Value):pV (l++[p])=pV l++[p.1,p.2]:=by
 induction l with
 | nil=>rfl
 | cons q r H=>simp[pV,H]
theorem pV_get:∀(l:List (Value×Value)) (k:Nat) (hk:k<l.length),(pV l)[k*2]?=some l[k].1/\(pV l)[k*2+1]?=some l[k].2
 | [],k,h=>by simp at h
 | p::t,0,_=>by simp[pV]
 | p::t,k+1,h=>by
   have:=pV_get t k (by simpa using h);simp only[pV,List.getElem_cons_succ];have e1:(k+1)*2=k*2+1+1:=by omega
   rw[e1,aC,aC,aC,aC];exact this
structure ElemP (T ST:TypeId)(z:Value)(b:Nat):Prop where
 under:prog.underlying ST=some (.slice T)
 info:(prog.info? T).map (λi=>(i.zero,i.size,i.bytes))=some (some z,2,b)
 two:z.cells.size=2
 small:b<=100
def OwnP (T:TypeId)(w:Wd)(base:Nat)(v:Value)(l:List (Value×Value)):Prop:=w.ownsRow base T 2 v l.length (pV l)
section
variable {T ST:TypeId}{z:Value}{b:Nat}{w w':Wd}{base:Nat}{v:Value}{l:List (Value×Value)}
theorem OwnP.lt (h:OwnP T w base v l):∀k,v.ownBlock=some k->base<=k/\k<w.heap.size:=World.ownsRow.lt h
theorem ownP_nil (T:TypeId)(w:Wd)(base:Nat):OwnP T w base (.slice none 0 0) []:=World.ownsRow_nil w base T 2
theorem OwnP.same (h:OwnP T w base v l)(hk:∀k,v.ownBlock=some k->w'.heap[k]?=w.heap[k]?):OwnP T w' base v l:=by
 refine⟨h.1,?_⟩;rcases h.2 with I|⟨g,cap,H,rfl,hb,g0,rest⟩
 . exact .inl I
 . refine .inr ⟨g,cap,H,rfl,hb,?_,rest⟩;rw[hk g rfl];exact g0
theorem OwnP.below (h:OwnP T w base v l)(hb:Bw w w'):OwnP T w' base v l:=h.same λk hk=>hb.block k (h.lt k hk).2
theorem OwnP.slice (h:OwnP T w base v l):∃a cap,v=.slice a l.length cap/\(∀k,∀hk:k<l.length,∃g,a=some (Av g)/\w.cell? (Aw g (k*2))=some l[k].1/\w.cell? (Aw g (k*2+1))=some l[k].2):=by
 rcases h.2 with ⟨H,h0⟩|⟨g,cap,I,H,O,hh,_⟩
 . exact⟨none,0,by rw[H,h0],λk hk=>by omega⟩
 . refine⟨_,cap,H,λk hk=>⟨g,rfl,?_⟩⟩;subst H;have h1:=World.ownsRow.cellAt h (k*2) (by omega);have h2:=World.ownsRow.cellAt h (k*2+1) (by omega);rw[h1,h2];exact pV_get l k hk
theorem cell_two (w:Wd)(x y:Value)(t:TypeId):∀j u,[x,y][j]?=some u->(w.alloc (.cells #[x,y] t)).cell? (((Av w.heap.size):Addr).add j)=some u:=by
 intro j u H
 match j,H with
 | 0,H=>simp at H;subst H;simp[Addr.add]
 | 1,H=>simp at H;subst H;simp[Addr.add]
 | j+2,H=>simp at H
theorem wpList_appP (E:ElemP T ST z b)(wr:Wd){ops:Array Oper}{rest:List Oper}{o:Oper}{a:Act}{Q:Exit->Act->Wd->Prop}{W:Wd}(X:o.guard=none)(s x:Operand)
 (d:o.op=.call { callee:=.builtin .append,args:=#[s,x],argTypes:=#[ST,ST] })
 (base:Nat) (w0:Wd) (v:Value) (l:List (Value×Value)) (U O:Value) (hs:a.eval s=v) {N:Nat} (hx:a.eval x=.slice (some (Av N)) 1 1)
 (f:W=wr.alloc (.cells #[U,O] T)) (g:N=wr.heap.size) (Y:U.oneCell'=true/\O.oneCell'=true)
 (H:OwnP T wr base v l) (Z:l.length<1099511627776) (I:base<=wr.heap.size) (hb:Below base w0 wr)
 (h:∀v' w',OwnP T w' base v' (l++[(U,O)])->Below base w0 w'->base<=w'.heap.size->BG v v' wr w'->wpList prog ops Q rest (a.put o.dst v') w'):
 wpList prog ops Q (o::rest) a W:=by
 obtain⟨i,hi,c,g1,g3⟩:=Zm E.info;subst g;subst f
 have g2:=E.small;refine ZM (w:=wr.alloc (.cells #[U,O] T)) X s x ST d base T i z 2 b E.under hi c g1 g3 E.two (by decide)
  v l.length (pV l) hs (World.ownsRow.alloc H _) (Av wr.heap.size) 1 1 [U,O] hx rfl (cell_two _ _ _ _) (by intro u hu;simp at hu;rcases hu with rfl|rfl;exact Y.1;exact Y.2) (by unfold maxLen;omega) (by
   have h1:(l.length+1)*b<=1099511627776*100:=aG (by omega) g2;omega) (by simp;omega) ?_
 intro v' w' h1 h2 _ g0;refine h v' w' ?_ ?_ ?_ ⟨Gb h2,g0.imp id λe=>⟨_,e,by simp⟩⟩
 . unfold OwnP;rw[X4,pV_append];exact h1
 . exact(hb.alloc I _).grown h2 (by simp;omega) (λk hk=>(H.lt k hk).1)
 . have:=h2.size;simp at this;omega
end
theorem elemLit:ElemP 58 51 (.agg #[Iv 0,.bool false]) 16:=⟨underlying51,by kernel_rfl,rfl,by omega⟩
def litV (ls:List (Int×Bool)):List (Value×Value):=ls.map λp=>(Iv p.1,.bool p.2)
theorem litV_len (ls:List (Int×Bool)):(litV ls).length=ls.length:=by simp[litV]
theorem OwnP.lits {W:Wd}{base:Nat}{v:Value}{ls:List (Int×Bool)}(h:OwnP 58 W base v (litV ls))(hl:ls.length<=1000000):∃a c,v=.slice a ls.length c/\Bz W a ls/\(ls≠[]->∀x,a=some x->base<=x.block/\x.block<W.heap.size):=by
 obtain⟨a,c,e,H⟩:=h.slice;rw[litV_len]at e;refine⟨a,c,e,⟨by omega,λk hk=>?_⟩,λg0 x hx=>?_⟩
 . obtain⟨g,e1,I,c1⟩:=H k (by rw[litV_len];exact hk);exact⟨g,0,e1,by rw[XO,I];simp[litV],by rw[XO,c1];simp[litV]⟩
 . have:=h.lt x.block (by rw[e,hx];rfl);exact this
structure AnyS (W:Wd)(bl bn:Nat)(nv:Bool)(ls:List (Int×Bool))(wr:Wd):Prop where
 ch:Wr (λc=>c=bl\/c=bn) W wr
 box:∃v,wr.heap[bl]?=some (.cells #[v] 51 (0,0))/\OwnP 58 wr W.heap.size v (litV ls)
 bn:wr.heap[bn]?=some (.cells #[.bool nv] 4 (0,0))
theorem AnyS.below {W wr w':Wd}{bl bn:Nat}{H:Bool}{ls:List (Int×Bool)}(h:AnyS W bl bn H ls wr)(hb:Bw wr w'):AnyS W bl bn H ls w':=by
 obtain⟨v,h1,h2⟩:=h.box;exact⟨h.ch.trans (Wr.of_below hb (λ_=>False)) (λ_ _ e=>e) (λ_ _ e=>e.elim),⟨v,(hb.block _ (Xt.1 h1).1).trans h1,h2.below hb⟩,(hb.block _ (Xt.1 h.bn).1).trans h.bn⟩
theorem AnyS.app {W wr w':Wd}{bl bn:Nat}{U:Bool}{ls:List (Int×Bool)}{p:Int×Bool}{v':Value}(h:AnyS W bl bn U ls wr)(I:bl≠bn)(O:bl<W.heap.size)(H:bn<W.heap.size)
 (g1:OwnP 58 w' W.heap.size v' (litV ls++[(Iv p.1,.bool p.2)])) (g2:Below W.heap.size wr w'):AnyS W bl bn U (ls++[p]) (w'.setCell (Av bl) v'):=by
 obtain⟨v,h1,h2⟩:=h.box;have g3:Wr (λc=>c=bl\/c=bn) W w':=⟨g2.os.trans h.ch.os,g2.tape.trans h.ch.tape,g2.output.trans h.ch.output,Xz h.ch.size g2.size,λk hk X=>(g2.block k hk).trans (h.ch.keep k hk X)⟩;have g4:w'.heap[bl]?=some (.cells #[v] 51 (0,0)):=(g2.block bl O).trans h1;have g0:∀k,k≠bl->(w'.setCell (Av bl) v').heap[k]?=w'.heap[k]?:=λk hk=>Az hk _
 refine⟨g3.setCell (.inl (.inl rfl)) _,⟨v',A2 g4 _,?_⟩,(g0 bn (λe=>I e.symm)).trans ((g2.block bn H).trans h.bn)⟩;have e:litV (ls++[p])=litV ls++[(Iv p.1,.bool p.2)]:=by unfold litV;rw[XG];rfl
 rw[e];exact g1.same λk hk=>g0 k (λe=>by have:=(g1.lt k hk).1;omega)
def AnyQ (n:Nat)(ws0:List Ev)(bl bn:Nat)(F:BF)(s:Nat)(o:Own)(W:Wd)(m:ManD)(_:Nat->BF):Prop:=
 m.waits <:+ ws0/\∃a c ls H,W.cell? (Av bl)=some (.slice a ls.length c)/\Bz W a ls/\(ls≠[]->∀x,a=some x->s<=x.block/\x.block<W.heap.size/\o x.block=none)/\W.cell? (Av bn)=some (.bool H)/\ls.length<=n/\(H=true↔F=λ_=>false)/\(H=false->PathA n m.d.vars F ls/\stA F ls=λ_=>true)
section
variable {K:Law}{n:Nat}{room:Nat}{w0 w:Wd}{mb:Nat}{fs:List (Int×BF)}{nx:Int}{o:Own}{m:ManD}{V:Nat->BF}{ws0:List Ev}
theorem const_edge {d:Af}{V:Nat->BF}(hk:Ai d V){f:Nat}(h:okE (Aa d) f):(ef V f=λ_=>false)↔f=1:=by
 constructor
 . intro e;exact hk.dag.canon h (.inl rfl) (by rw[e,hk.dag.ef1])
 . rintro rfl;exact hk.dag.ef1
theorem any1_op {bl bf bn:Nat}{k:Int}{F:BF}(hk:(k,F)∈fs)(hw0:w0.heap.size<=bl/\w0.heap.size<=bn)(H:bl≠bf/\bl≠bn/\bn≠bf)(E:Int->ManD->ManD->Prop):
 OpLN K n (λ_=>True) room w0 mb fs nx (CAny bl bf bn) (BoAny bl bf bn k) (λm=>m.waits <:+ ws0) 57 #[Pt bl,Pt bf,Pt bn]
  (AnyQ n ws0 bl bn F) E:=by
 intro o W m V xb g0 hB hC hm gK hq;obtain⟨⟨la,ll,lc,hl⟩,hf,z,hz⟩:=hB;obtain⟨w1,gn⟩:=Ex (W.setCell (Av bl) (.slice none 0 0));have hI:Hq (_=w1):=Hd gn.symm;have gt:=hC bl (.inl rfl);have h6:=hC bf (.inr (.inl rfl));have gr:=hC bn (.inr (.inr rfl));have M:Wr (λc=>c=bl\/c=bn) W w1:=by rw[gn];exact(Wr.refl _ W).setCell (p:=Av bl) (.inl (.inl rfl)) _
 have g2:=g0.ok.store;obtain⟨f,gY,gX⟩:=g0.find hk;have gg:=g0.ok.handles.ok _ gY;have gT:m.d.vars.length=n:=g0.vars;have k1:n<=64:=by have:=g0.ok.store.small;rw[g0.vars]at this;exact this
 have R:Hq (∀wr,Wr (λc=>c=bl\/c=bn) W wr->AF (K m.d V) o wr mb m/\Ac o wr/\AR o wr xb mb):=Hd λwr Z=>⟨g0.is.other g0.lt Z (λk _ e=>by rcases e with rfl|rfl;exact gt.2;exact gr.2),g0.lt.mono Z.size,Co gK.cell (Z.keep xb (Ad gK.cell) (λe=>hq (e.elim .inl (λe=>.inr (.inr e))))),gK.own⟩
 have A:Hq (∀e,okE (Aa m.d) e->e<eMax):=Hd λe w=>D2 (K:=λ_ _=>K m.d V) (V:=V) g0.is w
 have c0:=cell1 hl;have f0:W.frozen? (Av bl)=false:=by simp[World.frozen?,hl]
 have c1:w1.cell? (Av bf)=some (Iv k):=Co hf (M.keep bf h6.1 (λe=>e.elim (λe=>H.1 e.symm) (λe=>H.2.2 e.symm)));have HE:=Hd (DQ (R.o w1 M).1 (R.o w1 M).2.2 g0.ok.handles.nodup gY);have gk:w1.heap[bn]?=some (.cells #[.bool z] 4 (0,0)):=by rw[gn];exact(Az (λe=>H.2.1 e.symm) _).trans hz
 have h5:w1.heap[bl]?=some (.cells #[.slice none 0 0] 51 (0,0)):=by rw[gn];exact A2 hl _
 obtain⟨I,g8⟩:=Ex (decide (f=1));obtain⟨w2,gm⟩:=Ex (w1.setCell (Av bn) (.bool I));have h8:Hq (_=w2):=Hd gm.symm;have fb:w1.frozen? (Av bn)=false:=by simp[World.frozen?,gk]
 have cb:=cell1 gk;have ha:Hq (AnyS W bl bn I [] w2):=Hd ⟨by rw[gm];exact M.setCell (.inl (.inr rfl)) _,⟨_,by rw[gm];exact(Az H.2.1 _).trans h5,ownP_nil _ _ _⟩,by rw[gm];exact A2 gk _⟩;have hK:Hq (I=true↔F=λ_=>false):=Hd (by rw[g8,YM,<-const_edge g2 gg,gX])
 have hh:Hq (∀(g:Nat) (ls:List (Int×Bool)) (wr:Wd),okE (Aa m.d) g->enode g=0->ls.length<=n->(I=false->PathA n m.d.vars F ls/\ef V g=stA F ls/\g≠1)->AnyS W bl bn I ls wr->∃(o':Own) (m':ManD) (V':Nat->BF),B9 (CAny bl bf bn) K o W mb m V o' wr m' V'/\BoAny bl bf bn k wr /\
  ((Ending.returned (.tuple #[])=.returned (.tuple #[])/\AnyQ n ws0 bl bn F W.heap.size o' wr m' V')\/(∃er:Int,Ending.returned (.tuple #[])=A1 er false ev0/\er≠0/\m'.waits=m.waits/\m'.waits <:+ ws0/\E er m m')\/(∃ev,Ending.returned (.tuple #[])=A1 0 true ev/\m.waits=ev::m'.waits/\StE K n (λ_=>True) room w0 mb fs nx (λm=>m.waits <:+ ws0) m'/\HapG K n (λ_=>True) room w0 mb fs nx ev))):=Hd λg ls wr hg h0 gU hp hs=>by
  obtain⟨v,q1,q2⟩:=hs.box;obtain⟨a,c,rfl,q3,s⟩:=q2.lits (by omega);have hX:wr.cell? (Av bf)=some (Iv k):=Co hf (hs.ch.keep bf h6.1 (λe=>e.elim (λe=>H.1 e.symm) (λe=>H.2.2 e.symm)));refine⟨o,m,V,B9.write ((AtC.refl g0.is g0.lt g2).st.toX _) hs.ch (λq e=>by rcases e with rfl|rfl;exact⟨.inl rfl,gt.2,gt.1⟩;exact⟨.inr (.inr rfl),gr.2,gr.1⟩),⟨⟨_,_,_,q1⟩,hX,_,hs.bn⟩,.inl ⟨rfl,hm,a,c,ls,I,cell1 q1,q3,λH x hx=>⟨(s H x hx).1,(s H x hx).2,g0.lt.none (s H x hx).1⟩,cell1 hs.bn,gU,hK.o,λhn=>?_⟩⟩;obtain⟨p1,p2,p3⟩:=hp hn;refine⟨p1,?_⟩;have hW:g=0:=by
   have k4:g/2=0:=h0;omega
  rw[<-p2,hW,g2.dag.ef0]
 have gl:Hq (∀wr T (g:Nat) (b:BN),Aa m.d (g/2)=some b->Wr (λc=>c=bl\/c=bn) W wr->T=wr.alloc (.cells #[Iv (g:Nat)] 107)->Cl 61 #[Pt xb,.slice (some (Av wr.heap.size)) 1 1] T (Bl (Iv (b.v:Nat)) wr)):=Hd λwr T g b hb Z hT=>by
  have h7:Bw wr T:=by rw[hT];exact Ag _ _
  have hO:T.heap[wr.heap.size]?=some (.cells #[Iv (g:Nat)] 107 (0,0)):=by rw[hT];exact Xv _ _
  obtain⟨a1,a2,a3⟩:=R.o T (Z.trans (Wr.of_below h7 (λ_=>False)) (λ_ _ e=>e) (λ_ _ e=>e.elim));refine(F4 a1 a2 a3 g2 [g] (λe w=>by rw[XB.1 w];exact .inr ⟨b,hb⟩) (some (Av wr.heap.size)) 1 ⟨by simp,λi hU=>?_⟩).mono ?_
  ·obtain rfl:i=0:=by simpa using hU
   exact⟨wr.heap.size,0,rfl,by rw[Xw _ _ 0 _ _ _ hO];rfl⟩
  ·rintro x w' ⟨top,least,rfl,ht,hQ⟩;rcases JU ht with ⟨_,hn⟩|⟨b',hH,rfl⟩
   . rw[hb]at hn;cases hn
   . rw[hb]at hH;cases hH;exact⟨rfl,h7.trans (hQ.mono h7.size)⟩
 have gL:Hq (∀wr (g:Nat) (b:BN),Aa m.d (g/2)=some b->Wr (λc=>c=bl\/c=bn) W wr->Cl 62 #[Pt xb,Iv (g:Nat),Iv (b.v:Nat)] wr (Bl (.tuple #[Iv ((cofs m.d g b.v).1:Nat),Iv ((cofs m.d g b.v).2:Nat)]) wr)):=Hd λwr g b hb Z=>by
  obtain⟨a1,a2,a3⟩:=R.o wr Z;exact EM a1 a2 a3 g2 g (.inr ⟨b,hb⟩) (b.v:Nat)
 have gP:Hq (∀(g:Nat) (b:BN) (ls:List (Int×Bool)) (y:Bool),Aa m.d (g/2)=some b->I=false->PathA n m.d.vars F ls->ef V g=stA F ls->g≠1->ls.length<=lvE n (levN m.d) (Aa m.d) g->y=decide ((cofs m.d g b.v).1=1)->b.v<n/\levN m.d b.v<n/\∀g',g'=(if y then(cofs m.d g b.v).2 else(cofs m.d g b.v).1)->okE (Aa m.d) g'/\PathA n m.d.vars F (ls++[(((b.v:Nat):Int),y)])/\ef V g'=stA F (ls++[(((b.v:Nat):Int),y)])/\g'≠1/\(ls++[(((b.v:Nat):Int),y)]).length<=lvE n (levN m.d) (Aa m.d) g'/\lvE n (levN m.d) (Aa m.d) g<lvE n (levN m.d) (Aa m.d) g'):=Hd λg b ls y hb k0 hp w hV gU t=>by
  have hD:okE (Aa m.d) g:=.inr ⟨b,hb⟩;have gq:=g2.dag.var _ _ hb;have gV:lvE m.d.vars.length (levN m.d) (Aa m.d) g=levN m.d b.v:=by unfold lvE;rw[hb]
  obtain⟨q1,q2,q3,s,_⟩:=Bo g2 hD gq (by rw[gV];exact Xs _);obtain⟨⟨_,U⟩,_,O⟩:=GR g2 hb;obtain⟨t1,t2⟩:=JP g2 hb;have hv:=g2.dag.lt b.v gq;rw[gT]at gV q3 s t1 t2 hv;refine⟨t2,hv,λg' g9=>?_⟩;have hY:ef V g'=cofF (ef V g) b.v y:=by
   rw[g9];cases y with
   | true=>exact O
   | false=>exact U
  have ho:okE (Aa m.d) g':=by rw[g9];cases y;exact q1;exact q2
  have hS:levN m.d b.v<lvE n (levN m.d) (Aa m.d) g':=by rw[g9];cases y;exact q3;exact s
  refine⟨ho,hp.snoc (by rw[<-w];exact t1) t2,?_,λe1=>?_,?_,by rw[gV];exact hS⟩
  . rw[stA_snoc,<-w,hY];rfl
  ·have hx:ef V g'=λ_=>false:=(const_edge g2 ho).2 e1
   have g6:(cofs m.d g b.v).1=1/\(cofs m.d g b.v).2=1:=by
    cases y with
    | true=>exact⟨YG t.symm,by rw[<-e1,g9];rfl⟩
    | false=>exact absurd (by rw[<-e1,g9];rfl) (of_decide_eq_false t.symm)
   refine hV ((const_edge g2 hD).1 (funext fun ρ=>?_));have h1:cofF (ef V g) b.v false=λ_=>false:=by rw[<-U,g6.1];exact g2.dag.ef1
   have h2:cofF (ef V g) b.v true=λ_=>false:=by rw[<-O,g6.2];exact g2.dag.ef1
   have h3:ef V g ρ=cofF (ef V g) b.v (ρ b.v) ρ:=by
    rw[Bq];congr 1;funext u;unfold upd
    by_cases e:u=b.v
    . rw[Xx e,e]
    . rw[Xu e]
   rw[h3];cases ρ b.v
   . rw[h1]
   . rw[h2]
  . rw[X4,Ze];omega
 have gu:Hq (I=false->PathA n m.d.vars F []/\ef V f=stA F []/\f≠1):=Hd λh=>⟨PathA.nil _ _ _,gX,of_decide_eq_false (by rw[<-g8];exact h)⟩
 have hL:Hq (I=true->f=1):=Hd λh=>YG (by rw[<-g8];exact h)
 have gN:Hq (∀g,okE (Aa m.d) g->enode g≠0->∃b,Aa m.d (g/2)=some b):=Hd λg hg h0=>hg.resolve_left h0
 have Q:Hq (∀g,lvE n (levN m.d) (Aa m.d) g<=n):=Hd λg=>by
  rw[<-gT];unfold lvE;cases hb:Aa m.d (g/2)with
  | none=>exact Xs _
  | some b=>exact aD (g2.dag.lt b.v (g2.dag.var _ _ hb))
 have hc:=Hd gg;have hZ:Hq (∀(g:Nat) (b:BN),Aa m.d (g/2)=some b->(cofs m.d g b.v).1<eMax/\(cofs m.d g b.v).2<eMax):=Hd λg b hb=>⟨A.o _ (GR g2 hb).1.1,A.o _ (GR g2 hb).2.1⟩
 have gE:=H.2.1;have g4:=gt.1;have gj:=gr.1;obtain⟨P,hP⟩:∃P:Ending->Wd->Prop,P=λe wr=>∃(o':Own) (m':ManD) (V':Nat->BF),B9 (CAny bl bf bn) K o W mb m V o' wr m' V'/\BoAny bl bf bn k wr /\
  ((e=.returned (.tuple #[])/\AnyQ n ws0 bl bn F W.heap.size o' wr m' V')\/(∃er:Int,e=A1 er false ev0/\er≠0/\m'.waits=m.waits/\m'.waits <:+ ws0/\E er m m')\/(∃ev,e=A1 0 true ev/\m.waits=ev::m'.waits/\StE K n (λ_=>True) room w0 mb fs nx (λm=>m.waits <:+ ws0) m'/\HapG K n (λ_=>True) room w0 mb fs nx ev)):=⟨_,rfl⟩
 have N:Hq (∀(g:Nat) (ls:List (Int×Bool)) (wr:Wd),okE (Aa m.d) g->enode g=0->ls.length<=n->(I=false->PathA n m.d.vars F ls/\ef V g=stA F ls/\g≠1)->AnyS W bl bn I ls wr->P (.returned (.tuple #[])) wr):=Hd (by rw[hP];exact hh.o)
 show Calls _ _ _ _ λe wr=>∃(o':Own) (m':ManD) (V':Nat->BF),B9 (CAny bl bf bn) K o W mb m V o' wr m' V'/\BoAny bl bf bn k wr /\
  ((e=.returned (.tuple #[])/\AnyQ n ws0 bl bn F W.heap.size o' wr m' V')\/(∃er:Int,e=A1 er false ev0/\er≠0/\m'.waits=m.waits/\m'.waits <:+ ws0/\E er m m')\/(∃ev,e=A1 0 true ev/\m.waits=ev::m'.waits/\StE K n (λ_=>True) room w0 mb fs nx (λm=>m.waits <:+ ws0) m'/\HapG K n (λ_=>True) room w0 mb fs nx ev))
 rw[<-hP];have gi:=A.o f gg;have ge:=Hd (DC f w1 gi);have gM:=Hd (CZ f w1 gi)
 have g5:Hq (I=(decide (enode f=0)&&eneg f)):=Hd (by
  rw[g8,Zw,XH,YM,YM];unfold enode eneg;rw[ZO];omega)
 clear hP hh hK g0 hC hm gK hq hl hf hz gn M gm gt h6 gr gk h5 g2 gY gX gg gT g8 H hw0 R hk
 go_enter func57,ntmps57
 go_upto_region 1 with fail;rw[hI.o];clear hI c0 f0;go_wp2_with fail;refine HE.o.mono ?_;rintro e w' ⟨rfl,rfl⟩;clear HE c1;have hN:=Hd ge.o;obtain⟨cf,gZ⟩:∃b,b=decide (enode f=0):=⟨_,rfl⟩;have gJ:=Hd gZ;have hR:=Hd gi;obtain⟨gf,hA⟩:∃b,b=eneg f:=⟨_,rfl⟩;rw[<-gZ]at ge hN g5;rw[<-hA]at gM g5;clear gZ hA gi;have gS:∀b,b=I->(w1.setCell (Av bn) (.bool b))=w2:=λb hb=>by rw[hb];exact h8.o
 have g7:Hq (∀b,b=I->w1.setCell (Av bn) (.bool b)=w2):=Hd gS;clear hN gS;cases cf with
 | false=>
   have gh:I=false:=by have:=g5.o;simpa using this
   have HN:=Hd (g7.o false gh.symm);have hd:=Hd gh;have gO:=Hd (gu.o gh);clear g5 gM g7 h8 gh gu hL;go_wp2_with fail;refine ge.o.mono ?_;rintro e w' ⟨rfl,rfl⟩;go_upto_region 3 with fail;rw[HN.o];clear HN ge cb fb
   go_loopw [5,6,7,8,9] (λD _ _ _ _ wr=>∃(g:Nat) (ls:List (Int×Bool)),D=Iv (g:Nat)/\Hq (okE (Aa m.d) g/\PathA n m.d.vars F ls/\ef V g=stA F ls/\g≠1/\ls.length<=lvE n (levN m.d) (Aa m.d) g)/\Hq (AnyS W bl bn I ls wr)) (λD _ _ _ _ _=>n-lvE n (levN m.d) (Aa m.d) (intOf D).toNat)
   case atStart=>exact⟨f,[],rfl,Hd ⟨hc.o,(gO.o).1,(gO.o).2.1,(gO.o).2.2,X0 _⟩,ha⟩
   case round=>
    clear gO ha hc;obtain⟨g,ls,rfl,X,HS⟩:=hrel;have gA:=Hd (DC g wr (A.o g X.o.1))
    by_cases h0:enode g=0
    ·have r:=Hd (N.o g ls wr X.o.1 h0 (Xz X.o.2.2.2.2 (Q.o g)) (λ_=>⟨X.o.2.1,X.o.2.2.1,X.o.2.2.2.1⟩) HS.o);rw[XQ h0]at gA;clear X HS A gl gL gP gN Q N h0 hd;go_wp2_with fail;refine gA.o.mono ?_;rintro x w' ⟨rfl,rfl⟩;go_wp2_with fail
     first|exact r.o|exact YW (Y7 rfl _ _ _) rfl r.o|exact X2 (Y7 rfl _ _ _) rfl r.o
    ·obtain⟨b,hb⟩:=gN.o g X.o.1 h0;rw[XW h0]at gA;have HB:=Hd hb;obtain⟨lo,g6⟩:∃z,z=(cofs m.d g b.v).1:=⟨_,rfl⟩;obtain⟨hi,gW⟩:∃z,z=(cofs m.d g b.v).2:=⟨_,rfl⟩;obtain⟨y,t⟩:=Ex (decide (lo=1));have gR:=t;rw[g6]at gR;obtain⟨d1,d2,d3⟩:=gP.o g b ls y hb hd.o X.o.2.1 X.o.2.2.1 X.o.2.2.2.1 X.o.2.2.2.2 gR;rw[<-g6,<-gW]at d3;have gQ:=Hd d3;have HT:=Hd (gl.o wr _ g b hb HS.o.ch rfl);have gG:Hq (∀W',Wr (λc=>c=bl\/c=bn) W W'->Cl 62 #[Pt xb,Iv (g:Nat),Iv (b.v:Nat)] W' (Bl (.tuple #[Iv (lo:Nat),Iv (hi:Nat)]) W')):=Hd λW' Z=>by
      have:=gL.o W' g b hb Z
      rwa [<-g6,<-gW]at this
     have gF:lo<eMax:=by rw[g6];exact(hZ.o g b hb).1
     have k2:ls.length<1099511627776:=by have h1:=X.o.2.2.2.2;have h2:=Q.o g;omega
     obtain⟨bv,gq⟩:∃z,z=b.v:=⟨_,rfl⟩;rw[<-gq]at gQ HT gG
     have B:Hq (y=(decide (enode lo=0)&&eneg lo)):=Hd (by
      rw[t,Zw,XH,YM,YM];unfold enode eneg;rw[ZO];omega)
     have gI:Hq (∀g',g'=(if y then hi else lo)->lvE n (levN m.d) (Aa m.d) g<n/\lvE n (levN m.d) (Aa m.d) g<lvE n (levN m.d) (Aa m.d) g'):=Hd λg' g9=>by
      have h1:=(d3 g' g9).2.2.2.2.2;have h2:=Q.o g';exact⟨by omega,h1⟩
     clear hb d1 d2 d3 g6 gW t gR gq X gl gL gP gN N h0 HB;go_wp2_with fail;refine gA.o.mono ?_;rintro x w' ⟨rfl,rfl⟩;go_wp2_with fail;refine HT.o.mono ?_;rintro x w5 ⟨rfl,hG⟩;have h9:=Hd (HS.o.below hG);have hJ:=Hd (gG.o w5 h9.o.ch);clear hG HT gA HS;go_wp2_with fail;refine hJ.o.mono ?_;rintro x j ⟨rfl,hF⟩;have gv:=Hd (h9.o.below hF);have l:=Hd (DC lo j gF);have gc:=Hd (CZ lo j gF);clear hF hJ gG h9;obtain⟨v,h4,gD⟩:=gv.o.box;have c6:=cell1 h4;have hj:=Hd h4;have gH:=Hd gD;obtain⟨av,cv,rfl,_⟩:=gD.slice;have gC:=gv.o.ch.size;obtain⟨cl,hE⟩:∃c,c=decide (enode lo=0):=⟨_,rfl⟩;obtain⟨nl,hu⟩:∃c,c=eneg lo:=⟨_,rfl⟩;rw[<-hE]at l B;rw[<-hu]at gc B;clear h4 gD hE hu gF;cases cl with
     | false=>
       obtain rfl:y=false:=by have:=B.o;simpa using this
       clear B;go_wp2_with fail;refine l.o.mono ?_;rintro x w' ⟨rfl,rfl⟩;clear l gc;go_wp2_with (at_builtin;refine wpList_appP elemLit j rfl _ _ rfl W.heap.size j _ (litV ls) (Iv (bv:Nat)) (.bool false) rfl rfl rfl rfl ⟨rfl,rfl⟩ gH.o (by have:=litV_len ls;omega) gC (X7 _ _) ?_;intro v' C g1 g3 go gp;obtain⟨a7,c7',e7,_⟩:=g1.slice;subst e7;have Y:=(g3.block bl g4).trans hj.o;have c7:=cell1 Y;have f7:C.frozen? (Av bl)=false:=(by simp[World.frozen?,Y]);have S:=Hd g1;have gB:=Hd g3;clear g1 g3 go gp Y);go_roundw
       case rel=>
        obtain⟨U,O,L,J,G,_⟩:=gQ.o _ rfl;exact⟨_,ls++[(((bv:Nat):Int),false)],rfl,Hd ⟨U,O,L,J,G⟩,Hd (gv.o.app (p:=(((bv:Nat):Int),false)) gE g4 gj (by have:=S.o;rw[X4]at this;exact this) gB.o)⟩
       case measure=>
        obtain⟨U,O⟩:=gI.o _ rfl;simp only[intOf,YH];exact Nat.sub_lt_sub_left U O
     | true=>
       obtain rfl:y=nl:=by have:=B.o;simpa using this
       clear B;cases y with
       | false=>
         go_wp2_with fail;refine l.o.mono ?_;rintro x w' ⟨rfl,rfl⟩;go_wp2_with fail;refine gc.o.mono ?_;rintro x w' ⟨rfl,rfl⟩;clear l gc;go_wp2_with (at_builtin;refine wpList_appP elemLit j rfl _ _ rfl W.heap.size j _ (litV ls) (Iv (bv:Nat)) (.bool false) rfl rfl rfl rfl ⟨rfl,rfl⟩ gH.o (by have:=litV_len ls;omega) gC (X7 _ _) ?_;intro v' C g1 g3 go gp;obtain⟨a7,c7',e7,_⟩:=g1.slice;subst e7;have Y:=(g3.block bl g4).trans hj.o;have c7:=cell1 Y;have f7:C.frozen? (Av bl)=false:=(by simp[World.frozen?,Y]);have S:=Hd g1;have gB:=Hd g3;clear g1 g3 go gp Y);go_roundw
         case rel=>
          obtain⟨U,O,L,J,G,_⟩:=gQ.o _ rfl;exact⟨_,ls++[(((bv:Nat):Int),false)],rfl,Hd ⟨U,O,L,J,G⟩,Hd (gv.o.app (p:=(((bv:Nat):Int),false)) gE g4 gj (by have:=S.o;rw[X4]at this;exact this) gB.o)⟩
         case measure=>
          obtain⟨U,O⟩:=gI.o _ rfl;simp only[intOf,YH];exact Nat.sub_lt_sub_left U O
       | true=>
         go_wp2_with fail;refine l.o.mono ?_;rintro x w' ⟨rfl,rfl⟩;go_wp2_with fail;refine gc.o.mono ?_;rintro x w' ⟨rfl,rfl⟩;clear l gc;go_wp2_with (at_builtin;refine wpList_appP elemLit j rfl _ _ rfl W.heap.size j _ (litV ls) (Iv (bv:Nat)) (.bool true) rfl rfl rfl rfl ⟨rfl,rfl⟩ gH.o (by have:=litV_len ls;omega) gC (X7 _ _) ?_;intro v' C g1 g3 go gp;obtain⟨a7,c7',e7,_⟩:=g1.slice;subst e7;have Y:=(g3.block bl g4).trans hj.o;have c7:=cell1 Y;have f7:C.frozen? (Av bl)=false:=(by simp[World.frozen?,Y]);have S:=Hd g1;have gB:=Hd g3;clear g1 g3 go gp Y);go_roundw
         case rel=>
          obtain⟨U,O,L,J,G,_⟩:=gQ.o _ rfl;exact⟨_,ls++[(((bv:Nat):Int),true)],rfl,Hd ⟨U,O,L,J,G⟩,Hd (gv.o.app (p:=(((bv:Nat):Int),true)) gE g4 gj (by have:=S.o;rw[X4]at this;exact this) gB.o)⟩
         case measure=>
          obtain⟨U,O⟩:=gI.o _ rfl;simp only[intOf,YH];exact Nat.sub_lt_sub_left U O
 | true=>
   have HN:=Hd (g7.o gf (by have:=g5.o;simpa using this.symm));have k3:I=false->f≠1:=λh=>((gu.o h).2.2)
   have r:=Hd (N.o f [] w2 hc.o (YG gJ.o.symm) (X0 _) gu.o ha.o);clear g5 g7 h8 A gl gL gP gN Q N gu hL;go_wp2_with fail;refine ge.o.mono ?_;rintro e w' ⟨rfl,rfl⟩;go_wp2_with fail;refine gM.o.mono ?_;rintro e w' ⟨rfl,rfl⟩;go_upto_region 3 with fail;rw[HN.o];have hM:=Hd (DC f w2 hR.o);rw[<-gJ.o]at hM;clear HN ge gM cb fb gJ
   go_loopw [5,6,7,8,9] (λD _ _ _ _ wr=>D=Iv (f:Nat)/\w2=wr) (λ_ _ _ _ _ _=>0)
   case atStart=>exact⟨rfl,rfl⟩
   case round=>
    obtain⟨rfl,rfl⟩:=hrel;go_wp2_with fail;refine hM.o.mono ?_;rintro x w' ⟨rfl,rfl⟩;go_wp2_with fail
    first|exact r.o|exact YW (Y7 rfl _ _ _) rfl r.o|exact X2 (Y7 rfl _ _ _) rfl r.o
end
def AnyR (n:Nat)(F:BF)(os:List Nat)(e:Int)(v:Value)(W:Wd)(o:Own):Prop:=
 ((F=λ_=>false)/\e=20/\v=.slice none 0 0)\/(¬ (F=λ_=>false)/\e=0/\∃a c ls,v=.slice a ls.length c/\Bz W a ls/\(ls≠[]->∀x,a=some x->o x.block=none)/\ls.length<=n/\PathA n os F ls/\stA F ls=λ_=>true)
theorem Bz.same {W W':Wd}{a:Option Addr}{ls:List (Int×Bool)}(h:Bz W a ls)(hk:ls≠[]->∀x,a=some x->W'.heap[x.block]?=W.heap[x.block]?):Bz W' a ls:=
 ⟨h.len,λk H=>by
  obtain⟨b,off,e,I,c1⟩:=h.cells k H;have hb:=hk (λe=>by subst e;simp at H) _ e;exact⟨b,off,e,Co I hb,Co c1 hb⟩⟩
theorem anyQ_keep {n:Nat}{ws0:List Ev}{bl bn s:Nat}{F:BF}{o:Own}{W W':Wd}{m:ManD}{V:Nat->BF}(hl:bl<s)(Z:bn<s)(Y:s+3<=W.heap.size)(h:AnyQ n ws0 bl bn F (s+3) o W m V)(a:Ali s W W'):AnyQ n ws0 bl bn F 0 o W' m V:=by
 obtain⟨h1,X,c,ls,I,h2,h3,H,U,O⟩:=h;exact⟨h1,X,c,ls,I,Co h2 (a.keep bl (by omega) (by omega)),h3.same λg0 x hx=>a.keep _ (H g0 x hx).2.1 (by have:=(H g0 x hx).1;omega),λg0 x hx=>⟨X0 _,X5 (H g0 x hx).2.1 a.size,(H g0 x hx).2.2⟩,Co U (a.keep bn (by omega) (by omega)),O⟩
section
variable {K:Law}{n:Nat}{room:Nat}{w0 w:Wd}{mb:Nat}{fs:List (Int×BF)}{nx:Int}{o:Own}{m:ManD}{V:Nat->BF}{ws0:List Ev}
theorem satpAny_any (h:SatE K n (λ_=>True) room w0 mb fs nx w o m V){k:Int}{F:BF}(hk:(k,F)∈fs)(Z:m.waits <:+ ws0):
 Cl 18 #[Pt mb,Iv k] w λx w'=>∃v e,x=.returned (.tuple #[v,Iv e])/\∃o' m' V',ChgX NoB o o' w w'/\m'.waits <:+ ws0/\SatE K n (λ_=>True) room w0 mb fs nx w' o' m' V'/\AnyR n F m'.d.vars e v w' o':=by
 have gn:∀(fn:Fn) (first cap:Array Value) (w:Wd),(Instr.makeFunc fn first cap).run prog w=.ok (.func fn first cap) w:=λ_ _ _ _=>rfl
 obtain⟨w1,g5⟩:=Ex (w.alloc (.cells #[Iv k] 3));obtain⟨w2,g4⟩:=Ex (w1.alloc (.cells #[.slice none 0 0] 51));obtain⟨H,g0⟩:=Ex (w2.alloc (.cells #[.bool false] 4));have u:Hq (_=w1):=Hd g5.symm;have gf:Hq (_=w2):=Hd g4.symm;have ge:Hq (_=H):=Hd g0.symm;have g8:Bw w w1:=by rw[g5];exact Ag _ _
 have g7:Bw w1 w2:=by rw[g4];exact Ag _ _
 have g6:Bw w2 H:=by rw[g0];exact Ag _ _
 have j:w1.heap.size=w.heap.size+1:=by rw[g5];simp
 have g9:w2.heap.size=w.heap.size+1+1:=by rw[g4];simp[j]
 have T:H.heap.size=w.heap.size+1+1+1:=by rw[g0];simp[g9]
 have g1:w1.heap[w.heap.size]?=some (.cells #[Iv k] 3 (0,0)):=by rw[g5];exact Xv _ _
 have g2:w2.heap[w.heap.size+1]?=some (.cells #[.slice none 0 0] 51 (0,0)):=by rw[<-j,g4];exact Xv _ _
 have g3:H.heap[w.heap.size+1+1]?=some (.cells #[.bool false] 4 (0,0)):=by rw[<-g9,g0];exact Xv _ _
 have hb:=(g8.trans (g7.mono g8.size)).trans (g6.mono (Xz g8.size g7.size));have c1:H.cell? (Av w.heap.size)=some (Iv k):=cell1 ((g6.block _ (by omega)).trans ((g7.block _ (by omega)).trans g1));have b:=(g6.block _ (by omega)).trans g2;have gh:=h.chg.size;have gc:=any1_op (K:=K) (n:=n) (room:=room) (w0:=w0) (mb:=mb) (nx:=nx) (ws0:=ws0) (bl:=w.heap.size+1) (bf:=w.heap.size) (bn:=w.heap.size+1+1) hk (by omega) ⟨by omega,by omega,by omega⟩ (λ_ _ _=>False);obtain⟨P,i⟩:=Ex (λv e w'=>∃o' m' V',ChgX NoB o o' w w'/\m'.waits <:+ ws0/\SatE K n (λ_=>True) room w0 mb fs nx w' o' m' V'/\AnyR n F m'.d.vars e v w' o':Value->Int->Wd->Prop)
 have Q:∀W W',BoAny (w.heap.size+1) w.heap.size (w.heap.size+1+1) k W->(∀c,CAny (w.heap.size+1) w.heap.size (w.heap.size+1+1) c->W'.heap[c]?=W.heap[c]?)->BoAny (w.heap.size+1) w.heap.size (w.heap.size+1+1) k W':=by
  rintro W W' ⟨⟨E,ll,D,Y⟩,f,z,I⟩ hk;exact⟨⟨E,ll,D,(hk _ (.inl rfl)).trans Y⟩,Co f (hk _ (.inr (.inl rfl))),z,(hk _ (.inr (.inr rfl))).trans I⟩
 have R:∀c,CAny (w.heap.size+1) w.heap.size (w.heap.size+1+1) c->w0.heap.size<=c:=by
  rintro c (rfl|rfl|rfl)<;>omega
 have gk:∀c,CAny (w.heap.size+1) w.heap.size (w.heap.size+1+1) c->c<H.heap.size/\o c=none:=by
  rintro c (rfl|rfl|rfl)<;>exact⟨by omega,h.lt.none (by omega)⟩
 have p:Hq (Cl 56 #[Pt mb,.func (.func 57) #[] #[Pt (w.heap.size+1),Pt w.heap.size,Pt (w.heap.size+1+1)]] H λx w'=>x=.returned (Iv 0)/\∃a l c O,w'.cell? (Av (w.heap.size+1))=some (.slice a l c)/\w'.cell? (Av (w.heap.size+1+1))=some (.bool O)/\(O=true->P (.slice none 0 0) 20 w')/\(O=false->P (.slice a l c) 0 w')):=Hd (by
  rw[i];refine(JK (QP:=λo W m V=>AnyQ n ws0 (w.heap.size+1) (w.heap.size+1+1) F 0 o W m V) Q (λs _ W W' m V g G _ J a=>anyQ_keep (g _ (.inl rfl)) (g _ (.inr (.inr rfl))) G J a) (λm d L _=>L) R enters_any1 gc (h.below hb) ⟨⟨_,_,_,b⟩,c1,_,g3⟩ gk Z).mono ?_;rintro x w' ⟨er,rfl,o',m',V',A,_,g,⟨rfl,Y,a,c,ls,O,f,I,X,C,B,t,r⟩|⟨_,m0,M,_⟩⟩
  . have y:ChgX NoB o o' w w':=(ChgX.of_below hb o NoB).trans g (λk hk e=>by rcases e with rfl|rfl|rfl<;>omega);refine⟨rfl,a,ls.length,c,O,f,C,λU=>⟨o',m',V',y,Y,A,.inl ⟨t.1 U,rfl,rfl⟩⟩,λU=>⟨o',m',V',y,Y,A,.inr ⟨λe=>(by have N:=t.2 e;rw[N]at U;cases U),rfl,a,c,ls,rfl,I,λS x hx=>(X S x hx).2.2,B,(r U).1,(r U).2⟩⟩⟩
  . exact M.elim)
 show Calls _ _ _ _ λx w'=>∃v e,x=.returned (.tuple #[v,Iv e])/\(λv e w'=>∃o' m' V',ChgX NoB o o' w w'/\m'.waits <:+ ws0/\SatE K n (λ_=>True) room w0 mb fs nx w' o' m' V'/\AnyR n F m'.d.vars e v w' o') v e w'
 rw[<-i];clear i gc h hk Z g5 g4 g0 g8 g7 g6 j g9 T g1 g2 g3 b hb c1 gh
 go_enter func18,ntmps18
 go_upto_region 3 with fail;rw[u.o,gf.o,ge.o];clear u gf ge;go_wp2_with fail;refine p.o.mono ?_;rintro x w' ⟨rfl,a,l,c,O,Y,f,I,X⟩;cases O with
 | true=>
   have q:=Hd (I rfl);clear I X p;go_wp2_with fail
   go_ret2
   exact⟨_,_,rfl,q.o⟩
 | false=>
   have q:=Hd (X rfl);clear I X p;go_wp2_with fail
   go_ret2
   exact⟨_,_,rfl,q.o⟩
end
theorem same_tab20 {n:Nat}{F G:BF}{x y:Value}{w:Wd}{b:Bool}(h1:TabA n w x F)(h2:TabA n w y G)(d1:DepF n F)(d2:DepF n G)(hb:b=true↔F=G):Cl 20 #[x,y] w (Bl (.bool b) w):=by
 obtain⟨O,c1,rfl,I⟩:=h1;obtain⟨a2,c2,rfl,H⟩:=h2;have hs:=Nk (tabB n F) (tabB n G) (by rw[BU,BU]) O a2 c1 c2 w I H;rw[BU]at hs;refine hs.mono λe w' hx=>⟨?_,hx.2⟩
 rw[hx.1];congr 2;rw[Zw,YM,hb];exact⟨λe=>JF d1 d2 e,λe=>by rw[e]⟩
section
theorem refTop_tab (n:Nat)(F:BF)(l:List Nat)(hl:l.length<=64)(H:∀v∈l,v<n)(j:n<=16)(Y f:Option Addr)(cu cl:Nat)(w:Wd)(h1:AM w Y (tabB n F))(h2:Aj w f (l.map Int.ofNat)):
 Cl 22 #[.slice Y (2^n) cu,.slice f l.length cl] w (Bl (Iv (topR n F l)) w):=by
 have h:Hq (∀v W,v<n->Bw w W->Cl 51 #[.slice Y (2^n) cu,Iv (v:Nat)] W (Bl (.bool (A5 n F v)) W)):=Hd λv W X hb=>JM n F v j X Y cu W (h1.below hb)
 have m:=Hd h2;have g7:=Hd H;obtain⟨N,c⟩:=Ex (topR n F l);have k:Hq (topR n F (l.drop 0)=N):=Hd c.symm;rw[<-c];obtain⟨L,e⟩:=Ex (2^n);rw[<-e]at h⊢;clear h1 h2 H c e
 go_enter func22,ntmps22
 go_wp2_with fail
 go_loopw [4,5] (λp Z wr=>∃i:Nat,i<=l.length/\Z=Iv i/\Hq (Bw w wr)/\Hq (topR n F (l.drop i)=N)) (λ_ Z _=>l.length-(intOf Z).toNat)
 case atStart=>exact⟨0,X0 _,rfl,Hd (X7 _ _),k⟩
 case round=>
  obtain⟨i,hi,rfl,I,g4⟩:=hrel
  by_cases H:i<l.length
  ·have g5:(i:Int)<(l.length:Int):=by omega
   obtain⟨b,off,rfl,O⟩:=(m.o.below I.o).cells i (by simpa using H);rw[Nd H]at O;have g:Hq (l.drop i=l.getD i 0::l.drop (i+1)):=Hd (by rw[Yc H];simp[List.getD,H]);have g3:l.getD i 0<n:=g7.o _ (by simp[List.getD,H]);obtain⟨v,X⟩:=Ex (l.getD i 0);rw[<-X]at O g g3;have U:=Hd (h.o v wr g3 I.o);obtain⟨t,a⟩:=Ex (A5 n F v);rw[<-a]at U;have g1:Hq (N=if t then(v:Int)else topR n F (l.drop (i+1))):=Hd (by rw[<-g4.o,g.o,a];rfl);clear X a;cases t with
   | true=>
     go_wp2_with fail;refine U.o.mono ?_;rintro x w2 ⟨rfl,g0⟩;have c1:=Cq g0 O;have g2:=Hd (I.o.trans (g0.mono I.o.size));have d:Hq (Ending.returned (Iv (v:Nat))=.returned (Iv N)):=Hd (by rw[g1.o];rfl);clear g0 O U g1;go_wp2_with fail;go_ret;exact⟨d.o,g2.o⟩
   | false=>
     go_wp2_with fail;refine U.o.mono ?_;rintro x w2 ⟨rfl,g0⟩;have g2:=Hd (I.o.trans (g0.mono I.o.size));have g6:Hq (topR n F (l.drop (i+1))=N):=Hd (by rw[g1.o];rfl);clear g0 O U g1;go_wp2_with fail;go_roundw
     case rel=>exact⟨i+1,by omega,by go_num,g2,g6⟩
     case measure=>simp[intOf];omega
  ·have g5:¬ (i:Int)<(l.length:Int):=by omega
   have d:Hq (Ending.returned (Iv (-1))=.returned (Iv N)):=Hd (by
    rw[<-g4.o,aL (by omega)];rfl)
   go_wp2_with fail;go_ret;exact⟨d.o,I.o⟩
end
end Go.Proofs.YtnphndlbfeagbaaGreat
