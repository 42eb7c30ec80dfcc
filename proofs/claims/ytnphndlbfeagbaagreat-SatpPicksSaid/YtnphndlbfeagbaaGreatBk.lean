/- More contracts of the program's functions. -/
import Derived.Test.YtnphndlbfeagbaaGreatB9
import Derived.ChangeSlices
set_option linter.all false
set_option maxRecDepth 100000
set_option maxHeartbeats 8000000
namespace Go.Proofs.YtnphndlbfeagbaaGreat
open Go.Proofs.Tryz
open Go.RowKit
def TabA.is {n:Nat}{W:Wd}{v:Value}{F:BF}(h:Ay W v (tabB n F)):TabA n W v F:=by
 obtain⟨a,c,e,h1,_⟩:=h;rw[BU]at e;exact⟨a,c,e,h1⟩

section
variable {K:Law}{n room:Nat}{w0 w W w' wb:Wd}{mb:Nat}{fs r:List (Int×BF)}{nx:Int}{o0:Own}{ws0:List Ev}{C:Nat->Prop}{B:Wd->Own->Prop}{k l:Int}{F G:BF}
def FxS.ask {f:Nat}{args:Array Value}{R:Ending->Wd->Prop}(h:FxS K n room w0 mb ws0 C o0 wb B fs nx W)(H:∀o m V,SatE K n (λ_=>True) room w0 mb fs nx W o m V->Calls prog f args W R):Calls prog f args W R:=by
 obtain⟨o,m,V,_,_,h3,_⟩:=h;exact H o m V h3
end
theorem wpList_appAllC {T ST:TypeId}{z:Value}{b:Nat}(E:Dg T ST z b){ops:Array Oper}{rest:List Oper}{o:Oper}{a:Act}{Q:Exit->Act->Wd->Prop}{wr:Wd}(Z:o.guard=none)(s x:Operand)
 (g:o.op=.call { callee:=.builtin .append,args:=#[s,x],argTypes:=#[ST,ST] })
 (base:Nat) (w0:Wd) (v:Value) (xs O:List Value) (d:Option Addr) (c:Nat) (hs:a.eval s=v) (hx:a.eval x=.slice d O.length c)
 (I:OwnC T wr base v xs) (U:∀j (h:j<O.length),∃b off,d=some (Aw b off)/\wr.cell? (Aw b (off+j))=some O[j]) (h1:∀u∈O,u.oneCell'=true) (l:xs.length+O.length<1099511627776) (H:base<=wr.heap.size) (hb:Below base w0 wr)
 (X:d=none->c=0)
 (h:∀v' w',OwnC T w' base v' (xs++O)->Below base w0 w'->base<=w'.heap.size->BG v v' wr w'->wpList prog ops Q rest (a.put o.dst v') w'):
 wpList prog ops Q (o::rest) a wr:=by
 obtain⟨i,hi,m,g3,g5⟩:=Zm E.info;have g4:=E.small;cases d with
 | none=>
   have h0:O=[]:=by
    apply YC;rcases ZC O.length with h0|h0
    . exact h0
    . obtain⟨b,off,hh,_⟩:=U 0 h0;cases hh
   subst h0;obtain rfl:=X rfl;refine wpList_append_own_none (w:=wr) Z s x ST g base T i 1 E.under hi v xs.length xs hs I hx ?_;exact h v wr (by rw[Y5];exact I) hb H ⟨KA _ _,.inl rfl⟩
 | some p=>
   refine ZM (w:=wr) Z s x ST g base T i z 1 b E.under hi m g3 g5 (by rw[E.one];rfl) (by decide)
    v xs.length xs hs I p O.length c O hx (by simp) ?_ h1 (by unfold maxLen;omega) (by
     have h2:(xs.length+O.length)*b<=1099511627776*100:=aG (by omega) g4;omega) H ?_
   ·intro j u Y;have g0:j<O.length:=by
     rcases X9 j O.length with f|f
     . exact f
     . simp[XC f]at Y
    obtain⟨b,off,g6,n⟩:=U j g0;cases g6;rw[Xy g0]at Y;have Y:=Yr Y;subst Y;have g2:((Aw b off):Addr).add j=(Aw b (off+j)):=by unfold Addr.add;split<;>simp_all
    rw[g2];exact n
   ·intro v' w' h1 h2 _ g1;refine h v' w' ?_ ?_ ?_ ⟨Fl h2,g1.imp id λe=>⟨_,e,Xs _⟩⟩
    . unfold OwnC;rw[X4];exact h1
    . exact hb.grown h2 H (λk hk=>(I.lt k hk).1)
    . have:=h2.size;omega
def elemBools:Dg 28 34 (.slice none 0 0) 24:=⟨underlying34,by kernel_rfl,rfl,by omega⟩
structure BlsAt (W:Wd)(xs:List Value)(gs:List (List Bool)):Prop where
 len:xs.length=gs.length
 at_:∀i (h:i<xs.length) (h2:i<gs.length),Ay W xs[i] gs[i]
def BlsIs (W:Wd)(v:Value)(gs:List (List Bool)):Prop:=∃a c xs,v=.slice a gs.length c/\(a=none->c=0)/\gs.length<=9223372036854775807/\BlsAt W xs gs/\∀i (h:i<xs.length),∃b off,a=some (Aw b off)/\W.cell? (Aw b (off+i))=some xs[i]
section
variable {W W':Wd}{v:Value}{xs:List Value}{gs:List (List Bool)}
def BlsAt.below (h:BlsAt W xs gs)(hb:Bw W W'):BlsAt W' xs gs:=⟨h.len,λi h1 h2=>(h.at_ i h1 h2).below hb⟩
def BlsIs.below (h:BlsIs W v gs)(hb:Bw W W'):BlsIs W' v gs:=by
 obtain⟨a,c,xs,e,I,hl,hs,H⟩:=h;refine⟨a,c,xs,e,I,hl,hs.below hb,λi hi=>?_⟩;obtain⟨b,off,O,H⟩:=H i hi;exact⟨b,off,O,(Cq hb H)⟩
def BlsIs.elem (h:BlsIs W v gs){i:Nat}(hi:i<gs.length):∃b off c a2 c2,v=.slice (some (Aw b off)) gs.length c/\W.cell? (Aw b (off+i))=some (.slice a2 (gs.getD i []).length c2)/\AM W a2 (gs.getD i [])/\(a2=none->c2=0):=by
 obtain⟨a,c,xs,e,U,hl,hs,H⟩:=h;have hx:i<xs.length:=by rw[hs.len];exact hi
 obtain⟨b,off,O,h1⟩:=H i hx;obtain⟨a2,c2,e2,h2,h3⟩:=hs.at_ i hx hi;subst O;rw[e2]at h1;have I:gs.getD i []=gs[i]:=by simp[List.getD,hi]
 rw[I];exact⟨b,off,c,a2,c2,e,h1,h2,h3⟩
def BlsIs.slice (h:BlsIs W v gs):∃a c,v=.slice a gs.length c/\(a=none->c=0):=by
 obtain⟨a,c,xs,e,H,_⟩:=h;exact⟨a,c,e,H⟩
def BlsAt.nil (W:Wd):BlsAt W [] []:=⟨rfl,λi h=>by simp at h⟩
def BlsAt.snoc (h:BlsAt W xs gs){x:Value}{g:List Bool}(hx:Ay W x g):BlsAt W (xs++[x]) (gs++[g]):=by
 have hl:=h.len;refine⟨by simp[hl],λi h1 h2=>?_⟩;rcases X9 i xs.length with h3|h3
 . rw[XU h3,XU (by omega)];exact h.at_ i h3 (by omega)
 ·have e:i=xs.length:=by simp at h1;omega
  subst e;rw[XV (Xs _),XV (by omega)];simpa using hx
def BlsIs.of_own {base:Nat}(h:OwnC 28 W base v xs)(hs:BlsAt W xs gs)(hl:gs.length<=9223372036854775807):BlsIs W v gs:=by
 obtain⟨a,c,e,H⟩:=h.slice;refine⟨a,c,xs,by rw[e,hs.len],H,hl,hs,λi hi=>?_⟩;obtain⟨g,cap,e2,_,_⟩:=h.shape (by omega);rw[e]at e2;injection e2 with e2 _ _
 subst e2;rw[e]at h;refine⟨g,0,rfl,?_⟩;rw[XO,h.cell i hi];simp[hi]
end
def Ay.empty {W W':Wd}{v:Value}(h:Ay W v []):Ay W' v []:=by
 obtain⟨a,c,e,⟨h1,h2⟩,h3⟩:=h;exact⟨a,c,e,⟨h1,λk hk=>by simp at hk⟩,h3⟩
def RowBl (base:Nat)(v:Value)(gs:List (List Bool))(W:Wd):Prop:=∃xs,OwnC 28 W base v xs/\BlsAt W xs gs/\∀i (h:i<xs.length) (h2:i<gs.length),gs[i]≠[]->∀k,xs[i].ownBlock=some k->k<W.heap.size/\v.ownBlock≠some k
section
variable {base:Nat}{v v':Value}{gs:List (List Bool)}{W W1 w':Wd}
def RowBl.is (h:RowBl base v gs W)(hl:gs.length<=9223372036854775807):BlsIs W v gs:=by
 obtain⟨xs,h1,h2,_⟩:=h;exact BlsIs.of_own h1 h2 hl
def RowBl.below (h:RowBl base v gs W)(hb:Bw W W1):RowBl base v gs W1:=by
 obtain⟨xs,h1,h2,h3⟩:=h;exact⟨xs,h1.below hb,h2.below hb,λi hi g1 g0 k hk=>⟨X5 (h3 i hi g1 g0 k hk).1 hb.size,(h3 i hi g1 g0 k hk).2⟩⟩
def blsAt_keep {xs:List Value}(h2:BlsAt W xs gs)(hk:∀i (h:i<xs.length) (h2:i<gs.length),gs[i]≠[]->∀k,xs[i].ownBlock=some k->w'.heap[k]?=W.heap[k]?):BlsAt w' xs gs:=
 ⟨h2.len,λi hi H=>by
  by_cases I:gs[i]=[]
  . have:=h2.at_ i hi H;rw[I]at this⊢;exact this.empty
  . exact(h2.at_ i hi H).same λk e=>hk i hi H I k e⟩
def RowBl.app {xs:List Value}(h1:OwnC 28 W base v xs)(h2:BlsAt W xs gs)(h3:∀i (h:i<xs.length) (h2:i<gs.length),gs[i]≠[]->∀k,xs[i].ownBlock=some k->k<W.heap.size/\v.ownBlock≠some k){y:Value}{g:List Bool}(O:Ay W y g)(H:g≠[]->∀k,y.ownBlock=some k->v.ownBlock≠some k)
 (g1:OwnC 28 w' base v' (xs++[y])) (hs:W.heap.size<=w'.heap.size) (hk:BG v v' W w'):RowBl base v' (gs++[g]) w':=by
 have g6:BlsAt W (xs++[y]) (gs++[g]):=h2.snoc O;have hl:=h2.len;have key:∀i (h:i<(xs++[y]).length) (h2:i<(gs++[g]).length),(gs++[g])[i]≠[]->∀k,(xs++[y])[i].ownBlock=some k->k<W.heap.size/\v.ownBlock≠some k:=by
  intro i hi g2 g0 k g3;rcases X9 i xs.length with I|I
  . rw[XU (by omega)]at g0;rw[XU I]at g3;exact h3 i I (by omega) g0 k g3
  ·have e:i=xs.length:=by simp at hi;omega
   subst e;rw[XV (by omega)]at g0;rw[XV (Xs _)]at g3;have g4:g≠[]:=by simpa using g0
   have g5:y.ownBlock=some k:=by simpa using g3
   exact⟨O.blk g4 g5,H g4 k g5⟩
 refine⟨xs++[y],g1,blsAt_keep g6 λi hi g2 g0 k e=>hk.keep k (key i hi g2 g0 k e).1 (λe2=>(key i hi g2 g0 k e).2 e2.symm),λi hi g2 g0 k e=>⟨X5 (key i hi g2 g0 k e).1 hs,hk.ne (key i hi g2 g0 k e).2 (key i hi g2 g0 k e).1⟩⟩
end
def takeA (most:Nat)(L X:List (List Bool)):List (List Bool):=L++X.take (most-L.length)
def takeA_nil (most:Nat)(L:List (List Bool)):takeA most L []=L:=by unfold takeA;simp
def takeA_full {most:Nat}{L:List (List Bool)}(h:most<=L.length)(X:List (List Bool)):takeA most L X=L:=by
 unfold takeA;rw[Nat.sub_eq_zero_of_le h];simp
def takeA_one {most:Nat}{L:List (List Bool)}(h:L.length<most)(x:List Bool):takeA most L [x]=L++[x]:=by
 unfold takeA;obtain⟨d,hd⟩:∃d,most-L.length=d+1:=⟨most-L.length-1,by omega⟩;rw[hd];simp
def takeA_app (most:Nat)(L X Y:List (List Bool)):takeA most (takeA most L X) Y=takeA most L (X++Y):=by
 unfold takeA;rw[XF,List.take_append,X4,YB];congr 2;rcases Nat.le_total (most-L.length) X.length with h|h
 ·rw[Zo h];have e1:most-(L.length+(most-L.length))=most-L.length-X.length:=by omega
  rw[e1]
 ·rw[Nat.min_eq_right h];have e1:most-(L.length+X.length)=most-L.length-X.length:=by omega
  rw[e1]
def takeA_le {most:Nat}{L:List (List Bool)}(h:L.length<=most)(X:List (List Bool)):(takeA most L X).length<=most:=by
 unfold takeA;rw[X4,YB];omega
def offA (pre:List Bool)(vs:List Nat)(G:BF):List (List Bool):=(allL vs G).map λl=>pre++l
def offA_never (pre:List Bool)(vs:List Nat){G:BF}(h:G=λ_=>false):offA pre vs G=[]:=by
 unfold offA;have:∀vs:List Nat,allL vs (λ_=>false)=[]:=λvs=>by
  induction vs with
  | nil=>rfl
  | cons v r H=>
    show(allL r (cofF (λ_=>false) v false)).map _++(allL r (cofF (λ_=>false) v true)).map _=[]
    have e:∀b,cofF (λ_=>false) v b=λ_=>false:=λb=>rfl
    rw[e,e,H];rfl
 rw[h,this];rfl
def offA_end (pre:List Bool){G:BF}(H:Br [] G)(h:¬ (G=λ_=>false)):offA pre [] G=[pre]:=by
 unfold offA;have I:allL [] G=if G (λ_=>false)then [[]]else []:=rfl
 rw[I];cases hb:G λ_=>false with
 | true=>simp
 | false=>
   exfalso;refine h (funext fun ρ=>?_);rw[H ρ (λ_=>false) (by simp),hb]
def offA_step (pre:List Bool)(v:Nat)(r:List Nat)(G:BF):offA pre (v::r) G=offA (pre++[false]) r (cofF G v false)++offA (pre++[true]) r (cofF G v true):=by
 unfold offA
 show((allL r (cofF G v false)).map _++(allL r (cofF G v true)).map _).map _=_
 rw[XG,Y9,Y9];congr 1 <;> · refine YQ λl _=>?_;simp
structure AlC where
 bm:Nat
 bo:Nat
 bv:Nat
 bl:Nat
 ba:Nat
 bd:Nat
 g:Nat
def AlC.box (c:AlC)(k:Nat):Prop:=k=c.bm\/k=c.bo\/k=c.bv\/k=c.bl\/k=c.ba\/k=c.bd\/k=c.g
structure AlL (base bl:Nat)(L:List (List Bool))(v:Value)(xs:List Value)(W:Wd)(o:Own):Prop where
 box:W.heap[bl]?=some (.cells #[v] 34 (0,0))
 own:OwnC 28 W base v xs
 at_:BlsAt W xs L
 no:∀k,v.ownBlock=some k->o k=none
 el:∀i (h:i<xs.length) (h2:i<L.length),L[i]≠[]->∀k,xs[i].ownBlock=some k->base<=k/\k<W.heap.size/\o k=none/\v.ownBlock≠some k
structure AlB (c:AlC)(f:Value)(mb base0 base:Nat)(most:Nat)(av:Option Addr)(cv:Nat)(zs:List Int)(L:List (List Bool))(bs:List Bool)(W:Wd)(o:Own):Prop where
 m:W.cell? (Av c.bm)=some (Pt mb)
 most:W.cell? (Av c.bo)=some (Iv (most:Nat))
 v:W.cell? (Av c.bv)=some (.slice av zs.length cv)
 a:W.cell? (Av c.ba)=some (.slice (some (Av c.g)) bs.length bs.length)
 d:W.cell? (Av c.bd)=some f
 z:Aj W av zs
 zo:zs≠[]->∀x,av=some x->o x.block=none/\x.block<base0
 row:OwnB W base0 (.slice (some (Av c.g)) bs.length bs.length) bs
 l:∃v xs,AlL base c.bl L v xs W o
 no:∀k,c.box k->o k=none/\base0<=k/\k<base
 ne:c.bl≠c.bm/\c.bl≠c.bo/\c.bl≠c.bv/\c.bl≠c.ba/\c.bl≠c.bd/\c.bl≠c.g/\c.g≠c.bm/\c.g≠c.bo/\c.g≠c.bv/\c.g≠c.ba/\c.g≠c.bd
 hi:base<=W.heap.size
section
variable {c:AlC}{f:Value}{mb base0 base most cv:Nat}{av:Option Addr}{zs:List Int}{L:List (List Bool)}{bs:List Bool}{W W':Wd}{o o':Own}
def AlL.chg {v:Value}{xs:List Value}{bl:Nat}(h:AlL base bl L v xs W o)(I:o bl=none)(H:ChgX NoB o o' W W'):AlL base bl L v xs W' o':=by
 have hl:bl<W.heap.size:=(Xt.1 h.box).1;refine⟨(H.block bl hl I (λe=>e)).trans h.box,h.own.same λk hk=>H.block k (h.own.lt k hk).2 (h.no k hk) (λe=>e),blsAt_keep h.at_ λi h1 h2 g0 k hk=>H.block k (h.el i h1 h2 g0 k hk).2.1 (h.el i h1 h2 g0 k hk).2.2.1 (λe=>e),λk hk=>H.none' (h.own.lt k hk).2 (h.no k hk),λi h1 h2 g0 k hk=>?_⟩;obtain⟨Y,O,X,U⟩:=h.el i h1 h2 g0 k hk;exact⟨Y,X5 O H.size,H.none' O X,U⟩
def AlB.keepB (c:AlC)(f:Value)(mb base0 base most:Nat)(av:Option Addr)(cv:Nat)(zs:List Int)(L:List (List Bool))(bs:List Bool):AX (AlB c f mb base0 base most av cv zs L bs):=λW o W' o' h O=>by
 have X:∀k,c.box k->k<W.heap.size:=λk hk=>X5 (h.no k hk).2.2 h.hi
 have H:∀{b:Nat} {u:Value},c.box b->W.cell? (Av b)=some u->W'.cell? (Av b)=some u:=λhb e=>(XR (w:=W) (O.block _ (X _ hb) (h.no _ hb).1 (λe=>e))).trans e
 obtain⟨v,xs,hl⟩:=h.l;refine⟨H (.inl rfl) h.m,H (.inr (.inl rfl)) h.most,H (.inr (.inr (.inl rfl))) h.v,H (.inr (.inr (.inr (.inr (.inl rfl))))) h.a,H (.inr (.inr (.inr (.inr (.inr (.inl rfl)))))) h.d,h.z.sameN λI x hx U=>O.block _ U (h.zo I x hx).1 (λe=>e),λI x hx=>?_,h.row.same λk hk=>O.block k (h.row.lt k hk).2 (by cases hk;exact(h.no _ (.inr (.inr (.inr (.inr (.inr (.inr rfl))))))).1) (λe=>e),⟨v,xs,hl.chg (h.no _ (.inr (.inr (.inr (.inl rfl))))).1 O⟩,λk hk=>⟨O.none' (X k hk) (h.no k hk).1,(h.no k hk).2⟩,h.ne,Xz h.hi O.size⟩;subst hx;exact⟨O.none' (h.z.blk I) (h.zo I x rfl).1,(h.zo I x rfl).2⟩
def AlB.put (h:AlB c f mb base0 base most av cv zs L bs W o)(i:Nat)(y:Bool):AlB c f mb base0 base most av cv zs L (bs.set i y) (W.setCell (Aw c.g i) (.bool y)) o:=by
 have H:Wr (· = c.g) W (W.setCell (Aw c.g i) (.bool y)):=(Wr.refl (· = c.g) W).setCell (p:=Aw c.g i) (.inl rfl) (.bool y);have g2:∀k,c.box k->k<W.heap.size:=λk hk=>X5 (h.no k hk).2.2 h.hi
 have g0:∀{b:Nat} {u:Value},c.box b->b≠c.g->W.cell? (Av b)=some u->(W.setCell (Aw c.g i) (.bool y)).cell? (Av b)=some u:=λhb g1 e=>(XR (w:=W) (H.keep _ (g2 _ hb) g1)).trans e
 obtain⟨v,xs,hl⟩:=h.l;have g4:=(h.no c.g (.inr (.inr (.inr (.inr (.inr (.inr rfl))))))).2;obtain⟨s,r,q,n,n5,n6,n7,n8,j,O,I⟩:=h.ne;refine⟨g0 (.inl rfl) n7.symm h.m,g0 (.inr (.inl rfl)) n8.symm h.most,g0 (.inr (.inr (.inl rfl))) j.symm h.v,by rw[XE];exact g0 (.inr (.inr (.inr (.inr (.inl rfl))))) O.symm h.a,g0 (.inr (.inr (.inr (.inr (.inr (.inl rfl)))))) I.symm h.d,h.z.sameN λg1 x hx g3=>H.keep _ g3 (λe=>by have:=(h.zo g1 x hx).2;omega),h.zo,by rw[XE];exact h.row.setB i y,⟨v,xs,(H.keep _ (g2 _ (.inr (.inr (.inr (.inl rfl))))) n6).trans hl.box,hl.own.same λk hk=>H.keep k (hl.own.lt k hk).2 (λe=>by have:=(hl.own.lt k hk).1;omega),blsAt_keep hl.at_ λi h1 h2 g1 k hk=>H.keep k (hl.el i h1 h2 g1 k hk).2.1 (λe=>by have:=(hl.el i h1 h2 g1 k hk).1;omega),hl.no,λi h1 h2 g1 k hk=>?_⟩,h.no,h.ne,Xz h.hi H.size⟩;obtain⟨Z,Y,X,U⟩:=hl.el i h1 h2 g1 k hk;exact⟨Z,X5 Y H.size,X,U⟩
end
section
variable {c:AlC}{f:Value}{mb base0 base most cv:Nat}{av:Option Addr}{zs:List Int}{L:List (List Bool)}{bs:List Bool}{K:Law}{n room:Nat}{w0 wb W W':Wd}{fs:List (Int×BF)}{nx:Int}{o0:Own}{ws0:List Ev}{C:Nat->Prop}
def FxS.putA (h:FxS K n room w0 mb ws0 C o0 wb (AlB c f mb base0 base most av cv zs L bs) fs nx W)(I:wb.heap.size<=base0)(hw0:w0.heap.size<=base0)(i:Nat)(y:Bool):FxS K n room w0 mb ws0 C o0 wb (AlB c f mb base0 base most av cv zs L (bs.set i y)) fs nx (W.setCell (Aw c.g i) (.bool y)):=
 h.wrS (D:=(· = c.g)) ((Wr.refl (· = c.g) W).setCell (p:=Aw c.g i) (.inl rfl) (.bool y)) (λk e=>.inr (by
  obtain⟨o,m,V,_,_,_,H⟩:=h;have:=(H.no c.g (.inr (.inr (.inr (.inr (.inr (.inr rfl))))))).2.1;have e:k=c.g:=e;omega)) (λk e=>by
  obtain⟨o,m,V,_,_,_,H⟩:=h;have:=(H.no c.g (.inr (.inr (.inr (.inr (.inr (.inr rfl))))))).2.1;have e:k=c.g:=e;omega) (λo hb k e=>by
  have e:k=c.g:=e;rw[e];exact(hb.no c.g (.inr (.inr (.inr (.inr (.inr (.inr rfl))))))).1) λo _ hb=>hb.put i y
def FxS.appA (h:FxS K n room w0 mb ws0 C o0 wb (AlB c f mb base0 base most av cv zs L bs) fs nx W)(S:wb.heap.size<=base0)(hw0:w0.heap.size<=base0)(p:bs.length<=1000000):
 ∃v xs,W.heap[c.bl]?=some (.cells #[v] 34 (0,0))/\OwnC 28 W base v xs/\xs.length=L.length/\base<=W.heap.size /\
  ∀v4 U v6 O I,OwnB U W.heap.size v4 bs->Bw W U->OwnC 28 O base v6 (xs++[v4])->O.os=U.os->O.tape=U.tape->O.output=U.output->U.heap.size<=O.heap.size->BG v v6 U O->I=O.setCell (Av c.bl) v6 ->
   FxS K n room w0 mb ws0 C o0 wb (AlB c f mb base0 base most av cv zs (L++[bs]) bs) fs nx I:=by
 obtain⟨o,m,V,h1,h2,h3,H⟩:=h;obtain⟨v,xs,hl⟩:=H.l;refine⟨v,xs,hl.box,hl.own,hl.at_.len,H.hi,λv4 U v6 O I B g7 g1 e1 e2 e3 e4 hk X=>?_⟩;have t:=H.no c.bl (.inr (.inr (.inr (.inl rfl))));have gn:=g7.size;have gl:=H.hi;have g9:∀k,k≠c.bl->I.heap[k]?=O.heap[k]?:=λk hk=>by rw[X];exact Az hk _
 have gm:I.heap.size=O.heap.size:=by rw[X];simp[World.setCell]
 have g4:∀k,k<W.heap.size->k≠c.bl->v.ownBlock≠some k->I.heap[k]?=W.heap[k]?:=λk g6 g3 T=>by
  rw[g9 k g3,hk.keep k (by omega) (λe=>T e.symm)];exact g7.block k g6
 have g5:∀k,v.ownBlock=some k->base<=k/\k<W.heap.size:=λk hk=>hl.own.lt k hk
 have D:Wr (λk=>k=c.bl\/v.ownBlock=some k) W I:=⟨by rw[X];exact e1.trans g7.os,by rw[X];exact e2.trans g7.tape,by rw[X];exact e3.trans g7.output,by omega,λk g6 g3=>g4 k g6 (λe=>g3 (.inl e)) (λe=>g3 (.inr e))⟩;have r:∀k,k=c.bl\/v.ownBlock=some k->base0<=k/\o k=none:=λk e=>by
  rcases e with rfl|e
  . exact⟨t.2.1,t.1⟩
  . have:=g5 k e;exact⟨by omega,hl.no k e⟩
 refine⟨o,m,V,h1.trans (ChgX.of_wr (C:=λk=>k=c.bl\/v.ownBlock=some k) D o (λ_ _ q=>q)) (λk hk q=>by have:=(r k q).1;omega),h2,h3.other D (λk _ q=>⟨by have:=(r k q).1;omega,(r k q).2⟩),?_⟩;have E:∀k,c.box k->k≠c.bl->I.heap[k]?=W.heap[k]?:=λk g6 g3=>by
  have:=H.no k g6;exact g4 k (by omega) g3 (λe=>by have:=(g5 k e).1;omega)
 have g2:∀{b:Nat} {u:Value},c.box b->b≠c.bl->W.cell? (Av b)=some u->I.cell? (Av b)=some u:=λhb g0 e=>(XR (w:=W) (E _ hb g0)).trans e
 obtain⟨R,M,J,G,n5,n6,n7,n8,n9,Q,N⟩:=H.ne;have g8:∀k,v4.ownBlock=some k->W.heap.size<=k/\k<U.heap.size:=λk hk=>B.lt k hk
 have gf:∀k,W.heap.size<=k->k<U.heap.size->I.heap[k]?=U.heap[k]?:=λk g6 g3=>by
  rw[g9 k (by omega)];exact hk.keep k g3 (λe=>by have:=(g5 k e.symm).2;omega)
 have gh:Ay I v4 bs:=(B.boolsIs p).same λk hk=>gf k (g8 k hk).1 (g8 k hk).2
 have ge:BlsAt I xs L:=blsAt_keep hl.at_ λi j i2 g0 k hk=>by
  obtain⟨A,y,_,Z⟩:=hl.el i j i2 g0 k hk;exact g4 k y (by omega) Z
 have go:=hl.at_.len;refine⟨g2 (.inl rfl) R.symm H.m,g2 (.inr (.inl rfl)) M.symm H.most,g2 (.inr (.inr (.inl rfl))) J.symm H.v,g2 (.inr (.inr (.inr (.inr (.inl rfl))))) G.symm H.a,g2 (.inr (.inr (.inr (.inr (.inr (.inl rfl)))))) n5.symm H.d,H.z.sameN λg0 x hx gg=>g4 _ gg (λe=>by have:=(H.zo g0 x hx).2;omega) (λe=>by have:=(H.zo g0 x hx).2;have:=(g5 _ e).1;have:=t.2.2;omega),H.zo,H.row.same λk hk=>?_,⟨v6,xs++[v4],?_,?_,ge.snoc gh,λk Y=>?_,λi j i2 g0 k gc=>?_⟩,H.no,H.ne,by omega⟩
 ·have e:c.g=k:=by injection hk
  rw[<-e];exact E c.g (.inr (.inr (.inr (.inr (.inr (.inr rfl)))))) n6.symm
 ·have gk:O.heap[c.bl]?=some (.cells #[v] 34 (0,0)):=by
   rw[hk.keep c.bl (by omega) (λe=>by have:=(g5 c.bl e.symm).1;omega)];exact(g7.block c.bl (by omega)).trans hl.box
  rw[X];exact A2 gk _
 . exact g1.same λk hk=>g9 k (by have:=(g1.lt k hk).1;omega)
 ·rcases hk.loc with e|⟨k',e,gp⟩
  . rw[e]at Y;exact hl.no k Y
  . rw[e]at Y;cases Y;exact h3.lt.none (by omega)
 ·rcases X9 i xs.length with s|s
  . rw[XU s]at gc;rw[XU (by omega)]at g0;obtain⟨A,y,F,Z⟩:=hl.el i s (by omega) g0 k gc;exact⟨A,by omega,F,hk.ne Z (by omega)⟩
  ·have e:i=xs.length:=by simp at j;omega
   subst e;rw[XV (Xs _)]at gc;have gi:v4.ownBlock=some k:=by simpa using gc
   have:=g8 k gi;exact⟨by omega,by omega,h3.lt.none this.1,hk.ne (λe=>by have:=(g5 k e).2;omega) this.2⟩
end
section
def same_yes {F:Phi}{o:Own}{w:Wd}{mb:Nat}{m:ManD}(h:AF F o w mb m)(H:(m.hs.map Prod.fst).Nodup){k l:Int}{f g:Nat}(hk:(k,f)∈m.hs)(hl:(l,g)∈m.hs):
 Cl 72 #[Pt mb,Iv k,Iv l] w (Sm (.tuple #[.bool (f == g),Iv 0]) w):=by
 obtain⟨s,h⟩:=h;obtain⟨Y,c1,c2,X,U,O,f0⟩:=cells6 h.blk;have h1:=EP h H hk;have h2:=EP h H hl;have I:Hq (((f:Int) == (g:Int))=(f == g)):=by
  show((f:Int) == (g:Int))=(f == g)
  by_cases e:f=g
  . subst e;rw[beq_self_eq_true,beq_self_eq_true]
  . rw[YR.2 (show(f:Int)≠g by omega),YR.2 e]
 clear h H hk hl
 go_enter func72,ntmps72
 go_wp2
 go_ret2
 exact⟨by rw[<-I.o];rfl,rfl⟩
end
section
variable {K:Law}{n:Nat}{Od:List Nat->Prop}{room:Nat}{w0 w w':Wd}{mb:Nat}{fs:List (Int×BF)}{nx:Int}{o o':Own}{m m':ManD}{V V':Nat->BF}
def manSame_any (h:SatE K n Od room w0 mb fs nx w o m V){k l:Int}{F G:BF}(hk:(k,F)∈fs)(hl:(l,G)∈fs):
 Cl 72 #[Pt mb,Iv k,Iv l] w λx w'=>∃b:Bool,x=.returned (.tuple #[.bool b,Iv 0])/\(b=true↔F=G)/\w=w':=by
 obtain⟨f,I,rfl⟩:=h.find hk;obtain⟨g,H,rfl⟩:=h.find hl;refine(same_yes h.is h.ok.handles.nodup I H).mono ?_;rintro x w' ⟨rfl,rfl⟩;refine⟨_,rfl,?_,rfl⟩;rw[ZO];exact⟨λe=>by rw[e],λe=>h.ok.store.dag.canon (h.ok.handles.ok _ I) (h.ok.handles.ok _ H) e⟩
end
section
variable {K:Law}{n room:Nat}{w0 w W w' wb:Wd}{mb:Nat}{fs r:List (Int×BF)}{nx:Int}{o0:Own}{ws0:List Ev}{C:Nat->Prop}{B:Wd->Own->Prop}{k l:Int}{F G:BF}
def FxS.same (h:FxS K n room w0 mb ws0 C o0 wb B fs nx W)(hk:(k,F)∈fs)(hl:(l,G)∈fs):Cl 72 #[Pt mb,Iv k,Iv l] W λx w'=>∃b:Bool,x=.returned (.tuple #[.bool b,Iv 0])/\(b=true↔F=G)/\W=w':=
 h.ask λ_ _ _ hs=>manSame_any hs hk hl
end
section
variable {P:Program}{S:Wd->Prop}{Q:Exit->Act->Wd->Prop}{last:Bool}{ops:Array Oper}
def OnlyN (K:Act->Wd->Prop):Exit->Act->Wd->Prop:=λx a w=>x=.normal/\K a w
def onlyN_out {K:Act->Wd->Prop}:¬ LetsOut (OnlyN K):=λ⟨_,_,h,_⟩=>by cases h
def oper_only {o:Oper}{a:Act}{w:Wd}{K:Act->Wd->Prop}{Q:Exit->Act->Wd->Prop}(h:o.wp P a w (λa w=>OnlyN K .normal a w) (OnlyN K)):o.wp P a w K Q:=by
 unfold Oper.wp at *
 generalize (execOp a.eval o).run P w=r at *
 cases r with
 | ok n w'=>
   cases n<;>simp only[Oper.upon]at h⊢<;>
    first
     | exact h.2
     | exact Calls.mono h (λe w'' H=>by cases e<;>first|exact H.2|exact absurd H onlyN_out|cases H.1)
     | exact Rows.mono h (λ_ _ H=>H.2)
 | halt x w'=>cases x<;>simp only[Oper.upon]at h⊢<;> first|exact h|cases h.1
def mix_list {o:Oper}{r:List (Option Oper×Bool)}{a:Act}{w:Wd}(I:o.guard=none)
 (h:wpList P ops (OnlyN λH w'=>S w'/\AG P ops Q S last r H w') [o] a w):AG P ops Q S last ((some o,true)::r) a w:=by
 refine Fq I λK U=>?_
 have O:Region.wanted o (yielded ops a.tmps)=true:=by simp[Region.wanted,I]
 unfold wpList at h;rw[Xx O]at h;rcases h with h|⟨_,h⟩
 . refine Oper.wp_mono (K:=λH w'=>S w'/\AG P ops Q S last r H w') (λH w' hh=>U H w' hh.1 hh.2) (oper_only h)
 . exact absurd h onlyN_out
end
def enters_all1 (args:Array Value)(w:Wd):(callFunc 71 args).run prog w=.ok (.enter 71 args) w:=YF func71 (by kernel_rfl) rfl args w
def AlC.caps (c:AlC):Array Value:=#[Pt c.bm,Pt c.bl,Pt c.bo,Pt c.bv,Pt c.ba,Pt c.bd]
abbrev AlC.fn (c:AlC):Value:=.func (.func 71) #[] c.caps
section
variable {c:AlC}{mb base0 base most cv:Nat}{av:Option Addr}{vs:List Nat}{n room:Nat}{w0 wb:Wd}{o0:Own}{ws0:List Ev}{C:Nat->Prop}
abbrev AlF (c:AlC)(mb base0 base most:Nat)(av:Option Addr)(cv:Nat)(vs:List Nat)(n room:Nat)(w0 wb:Wd)(o0:Own)(ws0:List Ev)(C:Nat->Prop)(L:List (List Bool))(bs:List Bool)(fs:List (Int×BF))(nx:Int)(W:Wd):Prop:=
 FxS As n room w0 mb ws0 C o0 wb (AlB c c.fn mb base0 base most av cv (intL vs) L bs) fs nx W
def two_pow (d:Nat):(2:Int)<=2^(d+1):=by
 induction d with
 | zero=>decide
 | succ d H=>rw[Int.pow_succ];omega
def DownR (c:AlC)(mb base0 base most:Nat)(av:Option Addr)(cv:Nat)(vs:List Nat)(n room:Nat)(w0 wb:Wd)(o0:Own)(ws0:List Ev)(C:Nat->Prop)(L:List (List Bool))(bs:List Bool)(fs:List (Int×BF))(nx:Int)(i d:Nat)(G:BF)(x:Ending)(w':Wd):Prop:=
 x=.returned (Iv 0)/\∃nx' H,nx<=nx'/\nx'+2<=nx+2^(d+1)/\H.length=bs.length/\H.take i=bs.take i/\AlF c mb base0 base most av cv vs n room w0 wb o0 ws0 C (takeA most L (offA (bs.take i) (vs.drop i) G)) H fs nx' w'
def down_stop {L:List (List Bool)}{bs:List Bool}{fs:List (Int×BF)}{nx:Int}{W:Wd}{k:Int}{G:BF}{i d:Nat}(h:AlF c mb base0 base most av cv vs n room w0 wb o0 ws0 C L bs fs nx W)(hk:(k,G)∈fs)(h0:(0,λ_=>false)∈fs)(U:L.length<=most)(hs:(G=λ_=>false)\/L.length=most):
 Cl 71 (#[Iv k,Iv (i:Nat)]++c.caps) W (DownR c mb base0 base most av cv vs n room w0 wb o0 ws0 C L bs fs nx i d G):=by
 have H:Hq (DownR c mb base0 base most av cv vs n room w0 wb o0 ws0 C L bs fs nx i d G (.returned (Iv 0)) W):=Hd ⟨rfl,nx,bs,ZY _,by have:=two_pow d;omega,rfl,rfl,by
  have e:takeA most L (offA (bs.take i) (vs.drop i) G)=L:=by
   rcases hs with e|e
   . rw[offA_never _ _ e,takeA_nil]
   . exact takeA_full (by omega) _
  rw[e];exact h⟩
 have g0:=Hd (h.same hk h0);obtain⟨o,m,V,_,_,_,hb⟩:=h;have c2:=hb.m;have Y:=hb.most;obtain⟨v,xs,hl⟩:=hb.l;have X:=cell1 hl.box;have g1:=hl.at_.len;obtain⟨a,Z,rfl,_⟩:=hl.own.slice;rw[g1]at X;have I:=Hd hs;have g3:L.length<=most:=U;obtain⟨P,O⟩:=Ex (DownR c mb base0 base most av cv vs n room w0 wb o0 ws0 C L bs fs nx i d G);rw[<-O]at H⊢;obtain⟨bm,bo,bv,bl,ba,bd,g⟩:=c;dsimp only at c2 Y X;unfold AlC.caps;clear O hb hl hs U g1
 show Calls _ _ #[_,_,_,_,_,_,_,_] _ _
 go_enter func71,ntmps71
 go_wp2_with fail;refine g0.o.mono ?_;rintro x w' ⟨b,rfl,hb,rfl⟩;cases b with
 | true=>
   clear hb I g0;go_wp2_with fail
   first|exact H.o|exact X2 (YD rfl _ _ _) rfl H.o
 | false=>
   have g2:L.length=most:=by
    rcases I.o with e|e
    . have:=hb.2 e;cases this
    . exact e
   subst g2;clear hb I g0;go_wp2_with fail
   first|exact H.o|exact X2 (YD rfl _ _ _) rfl H.o
def sizeBls:(prog.info? 34).map (λi=>i.size)=some 1:=by kernel_rfl
def down_end {L:List (List Bool)}{bs:List Bool}{fs:List (Int×BF)}{nx:Int}{W:Wd}{k:Int}{G:BF}{d:Nat}(h:AlF c mb base0 base most av cv vs n room w0 wb o0 ws0 C L bs fs nx W)(hk:(k,G)∈fs)(h0:(0,λ_=>false)∈fs)(A:L.length<most)(hm:most<=4096)(B:¬ (G=λ_=>false))(Q:Br [] G)(Z:bs.length=vs.length)(hbs:bs.length<=1000)(z:wb.heap.size<=base0)(hw0:w0.heap.size<=base0):
 Cl 71 (#[Iv k,Iv (vs.length:Nat)]++c.caps) W (DownR c mb base0 base most av cv vs n room w0 wb o0 ws0 C L bs fs nx vs.length d G):=by
 have T:=Hd (h.same hk h0);have gk:Bw W W.drew:=An W 1;have R:=FxS.below (AlB.keepB _ _ _ _ _ _ _ _ _ _ _) h gk;obtain⟨v,xs,g0,ge,i,gu,gr⟩:=R.appA z hw0 (by omega);have gn:c.box c.bl/\base0<=c.bl/\c.bl<base/\c.ba<base/\W.cell? (Av c.bm)=some (Pt mb)/\W.cell? (Av c.bo)=some (Iv (most:Nat))/\W.cell? (Av c.bv)=some (.slice av (intL vs).length cv)/\W.cell? (Av c.ba)=some (.slice (some (Av c.g)) bs.length bs.length)/\OwnB W base0 (.slice (some (Av c.g)) bs.length bs.length) bs:=by
  obtain⟨o,m,V,_,_,_,hb⟩:=h;have:=hb.no c.bl (.inr (.inr (.inr (.inl rfl))));exact⟨.inr (.inr (.inr (.inl rfl))),this.2.1,this.2.2,(hb.no c.ba (.inr (.inr (.inr (.inr (.inl rfl)))))).2.2,hb.m,hb.most,hb.v,hb.a,hb.row⟩
 obtain⟨_,gD,gC,gE,c2,c4,c5,c6,gm⟩:=gn;rw[Cw]at c5;have gI:W.drew.heap.size=W.heap.size:=rfl;have go:W.heap[c.bl]?=some (.cells #[v] 34 (0,0)):=g0;have M:=cell1 go;obtain⟨Y,X,rfl,_⟩:=ge.slice;rw[i]at M g0 go
 have J:Hq (∀N,AlF c mb base0 base most av cv vs n room w0 wb o0 ws0 C (L++[bs]) bs fs nx N->DownR c mb base0 base most av cv vs n room w0 wb o0 ws0 C L bs fs nx vs.length d G (.returned (Iv 0)) N):=Hd λN h7=>⟨rfl,nx,bs,ZY _,by have:=two_pow d;omega,rfl,rfl,by
  have e:takeA most L (offA (bs.take vs.length) (vs.drop vs.length) G)=L++[bs]:=by
   rw[aW,<-Z,XP,offA_end bs Q B,takeA_one A]
  rw[e];exact h7⟩
 have E:=Hd gr;have g5:=Hd ge;have gt:Hq (∀W',Bw W W'->∀j (r:j<(AA bs).length),∃b off,(some (Av c.g):Option Addr)=some (Aw b off)/\W'.cell? (Aw b (off+j))=some (AA bs)[j]):=Hd λW' hb j r=>by
  have gv:j<bs.length:=by rw[EV]at r;exact r
  have q:=gm.cellB j gv;refine⟨c.g,0,rfl,?_⟩;rw[XO,(Cq hb q)];have:=getElem?_boolsV gv;rw[Xy r]at this;rw[Yr this]
 have gB:Hq (∀b:Bool,(b=true↔G=λ_=>false)->b=false):=Hd λb hb=>by
  cases b with
  | false=>rfl
  | true=>exact absurd (hb.1 rfl) B
 have gJ:¬ (L.length:Int)=(most:Int):=by omega
 have gK:L.length<most:=A;have gH:(AA bs).length=bs.length:=EV bs;obtain⟨P,S⟩:=Ex (DownR c mb base0 base most av cv vs n room w0 wb o0 ws0 C L bs fs nx vs.length d G);rw[<-S]at J⊢;obtain⟨bm,bo,bv,bl,ba,bd,g⟩:=c;dsimp only at c2 c4 M c5 c6 gD gC gE g0 go;unfold AlC.caps;clear S R gr ge gm h hk h0 B Q A Z
 show Calls _ _ #[_,_,_,_,_,_,_,_] _ _
 go_enter func71,ntmps71
 go_wp2_with fail;refine T.o.mono ?_;rintro x w' ⟨b,rfl,hb,rfl⟩;obtain rfl:=gB.o b hb;clear hb gB T;go_upto_region 5 with fail;obtain⟨H,t⟩:=Ex W.drew;have g6:H.cell? (Av bl)=some (.slice Y L.length X)/\H.cell? (Av ba)=some (.slice (some (Av g)) bs.length bs.length):=by
  rw[t];exact⟨(Cq gk M),(Cq gk c6)⟩
 have gw:Bw W H:=by rw[t];exact gk
 have gy:=Hd t;rw[<-t]at E g5 g0 gu;have gf:bl<H.heap.size:=by omega
 have gp:ba<H.heap.size:=Ad g6.2;refine AJ (λw':Wd=>w'.cell? (Av bl)=some (.slice Y L.length X)/\w'.cell? (Av ba)=some (.slice (some (Av g)) bs.length bs.length)) true 6 [(0,false),(2,false),(1,true),(3,true),(4,true),(5,true),(6,true)] (by kernel_rfl) (by kernel_rfl) (by rw[<-gy.o];exact g6) ?_;rw[<-gy.o];simp only[planned,AI]
 iterate 2
  refine A0 rfl ?_;apply Exists.intro;refine⟨λw' hw=>?_,?_⟩
  . obtain⟨h1,h2⟩:=hw;go_simp;rfl
  simp only[Ab]
 have f:=Ag H (.cells #[] 4);refine Ei rfl (w':=H.alloc (.cells #[] 4)) (v:=.slice (some (Av H.heap.size)) 0 0) (by go_simp) ⟨(f.cell (p:=Av bl) gf).trans g6.1,(f.cell (p:=Av ba) gp).trans g6.2⟩ ?_;simp only[Ab];refine mix_list rfl ?_
 refine wpList_appAllC C6 rfl _ _ rfl H.heap.size H (.slice (some (Av H.heap.size)) 0 0) [] (AA bs) (some (Av g)) bs.length rfl (by rw[gH];rfl) (D1 4 H H.heap.size (Xs _)) (gt.o _ (gw.trans (f.mono gw.size))) (λu hu=>by
  obtain⟨b,_,rfl⟩:=X6.1 hu;rfl) (by simp only[Y2];omega) f.size f (λe=>by cases e) ?_
 intro v4 I g9 g7 gF gG;rw[Yv]at g9;have U:I.cell? (Av bl)=some (.slice Y L.length X)/\I.cell? (Av ba)=some (.slice (some (Av g)) bs.length bs.length):=⟨(g7.cell (p:=Av bl) gf).trans g6.1,(g7.cell (p:=Av ba) gp).trans g6.2⟩;refine⟨rfl,U,?_⟩;simp only[Ab];obtain⟨a4,l,e4,_⟩:=g9.slice;have gA:=Hd g9;subst e4;have gx:=Ag I (.cells #[.slice a4 (AA bs).length l] 28);refine Ei rfl (w':=I.alloc (.cells #[.slice a4 (AA bs).length l] 28)) (v:=.slice (some (Av I.heap.size)) 1 1) (by go_simp) ⟨(gx.cell (p:=Av bl) (Ad U.1)).trans U.1,(gx.cell (p:=Av ba) (Ad U.2)).trans U.2⟩ ?_;simp only[Ab];refine mix_list rfl ?_;refine Dh elemBools I rfl _ _ rfl base (.slice Y L.length X) xs (.slice a4 (AA bs).length l) rfl rfl rfl rfl rfl (by have:=g5.o.below g7;rw[i]at this;exact this) (by omega) (by omega) ?_;intro v6 O g8 g1 g2 g3 g4 s
 have F:O.heap[bl]?=I.heap[bl]?:=s.keep bl (by omega) (λe=>by
  have:=(g5.o.lt bl (by rw[i];exact e.symm)).1;omega)
 have gq:O.heap[ba]?=I.heap[ba]?:=s.keep ba (by omega) (λe=>by
  have:=(g5.o.lt ba (by rw[i];exact e.symm)).1;omega)
 have y:O.cell? (Av bl)=some (.slice Y L.length X)/\O.cell? (Av ba)=some (.slice (some (Av g)) bs.length bs.length):=⟨Co U.1 F,Co U.2 gq⟩;have f6:O.frozen? (Av bl)=false:=by
  have e:O.heap[bl]?=some (.cells #[.slice Y L.length X] 34 (0,0)):=F.trans ((g7.block bl gf).trans g0);simp[World.frozen?,e]
 refine⟨rfl,y,?_⟩;simp only[Ab];obtain⟨w,D⟩:=Ex (O.setCell (Av bl) v6);obtain⟨a6,k6,K,_⟩:=g8.slice;have gc:OwnB I H.heap.size (.slice a4 (AA bs).length l) bs:=gA.o;have HF:=Hd (J.o w (E.o _ I v6 O w gc g7 g8 g1 g2 g3 g4 (by rw[i];exact s) D));refine EB (w':=w) rfl rfl (by rw[D];exact EA sizeBls y.1 f6 (by rw[K];rfl) (by rw[K];rfl)) ?_;clear g8 g1 g2 g3 g4 s D K gc gA g7 gF gG U y f6 F gq E g5 gt J;go_wp2_with fail
 first|exact HF.o|exact X2 (YD rfl _ _ _) rfl HF.o
def AlF.rd {L:List (List Bool)}{bs:List Bool}{fs:List (Int×BF)}{nx:Int}{W:Wd}(h:AlF c mb base0 base most av cv vs n room w0 wb o0 ws0 C L bs fs nx W){i:Nat}(hi:i<vs.length)(hb:bs.length=vs.length):
 W.cell? (Av c.bm)=some (Pt mb)/\W.cell? (Av c.bv)=some (.slice av vs.length cv)/\W.cell? (Av c.ba)=some (.slice (some (Av c.g)) vs.length vs.length)/\W.cell? (Av c.bd)=some c.fn/\(∃X,W.cell? (Aw c.g i)=some (.bool X))/\W.frozen? (Aw c.g i)=false/\∃b off,av=some (Aw b off)/\W.cell? (Aw b (off+i))=some (Iv (vs.getD i 0:Nat)):=by
 obtain⟨o,m,V,_,_,_,H⟩:=h;obtain⟨b,off,e,O⟩:=H.z.cells i (by rw[Cw];exact hi);have e2:at0 (intL vs) i=((vs.getD i 0:Nat):Int):=by unfold at0 intL;simp[List.getD,hi]
 rw[e2]at O;have I:=H.v;have U:=H.a;rw[Cw]at I;rw[hb]at U;exact⟨H.m,I,U,H.d,⟨_,H.row.cellB i (by omega)⟩,H.row.frozen i,b,off,e,O⟩
def lstJ (most:Nat)(L:List (List Bool))(pre:List Bool)(v:Nat)(r:List Nat)(G:BF):Nat->List (List Bool)
 | 0=>L
 | j+1=>takeA most (lstJ most L pre v r G j) (offA (pre++[decide (j=1)]) r (cofF G v (decide (j=1))))
def lstJ_le {most:Nat}{L:List (List Bool)}(h:L.length<=most)(pre:List Bool)(v:Nat)(r:List Nat)(G:BF):∀j,(lstJ most L pre v r G j).length<=most
 | 0=>h
 | j+1=>takeA_le (lstJ_le h pre v r G j) _
def down_step {L:List (List Bool)}{bs:List Bool}{fs:List (Int×BF)}{nx:Int}{W:Wd}{k:Int}{G:BF}{d i:Nat}
 (IH:∀L bs fs nx W k G,AlF c mb base0 base most av cv vs n room w0 wb o0 ws0 C L bs fs nx W->(k,G)∈fs->B2 fs->L.length<=most->Br (vs.drop (i+1)) G->bs.length=vs.length->nx+2^(d+1)<=549755813888->(fs.length+d)*2^n+(2^n+(2^n-1)*2^n)<=room ->
  Cl 71 (#[Iv k,Iv ((i+1:Nat):Int)]++c.caps) W (DownR c mb base0 base most av cv vs n room w0 wb o0 ws0 C L bs fs nx (i+1) d G))
 (h:AlF c mb base0 base most av cv vs n room w0 wb o0 ws0 C L bs fs nx W) (hk:(k,G)∈fs) (h2:B2 fs) (hi:i<vs.length) (hvn:∀v∈vs,v<n) (hn64:n<=64) (hL:L.length<most) (hm:most<=4096) (hG:¬ (G=λ_=>false)) (ho:Br (vs.drop i) G) (q:bs.length=vs.length) (hvl:vs.length<=1000) (Q:wb.heap.size<=base0) (hw0:w0.heap.size<=base0) (hn:nx+2^(d+2)<=549755813888) (hr:(fs.length+(d+1))*2^n+(2^n+(2^n-1)*2^n)<=room):
 Cl 71 (#[Iv k,Iv (i:Nat)]++c.caps) W (DownR c mb base0 base most av cv vs n room w0 wb o0 ws0 C L bs fs nx i (d+1) G):=by
 have gK:=Hd (h.same hk h2.zero);have gh:W.cell? (Av c.bo)=some (Iv (most:Nat))/\∃v xs,W.heap[c.bl]?=some (.cells #[v] 34 (0,0))/\OwnC 28 W base v xs/\xs.length=L.length:=by
  obtain⟨o,m,V,_,_,_,hb⟩:=h;obtain⟨v,xs,hl⟩:=hb.l;exact⟨hb.most,v,xs,hl.box,hl.own,hl.at_.len⟩
 obtain⟨c4,v9,xs9,gj,gg,gC⟩:=gh;have c3:=cell1 gj;obtain⟨la,lc,rfl,_⟩:=gg.slice;rw[gC]at c3;obtain⟨c2,c5,_⟩:=h.rd hi q;have gD:vs.getD i 0<n:=hvn _ (by simp only[List.getD,Xy hi,Z7];exact XM hi);have g6:vs.drop i=vs.getD i 0::vs.drop (i+1):=FT hi;obtain⟨v,hv⟩:=Ex (vs.getD i 0);rw[<-hv]at g6 gD;obtain⟨X,D⟩:=Ex (2^(d+1):Int);have gm:(2:Int)^(d+2)=2*X:=by rw[D,Int.pow_succ];omega
 have hd:2<=X:=by rw[D];exact two_pow d
 have HX:=Hd D;rw[gm]at hn;rw[<-D]at IH;have gN:Hq (∀b:Bool,(b=true↔G=λ_=>false)->b=false):=Hd λb hb=>by
  cases b with
  | false=>rfl
  | true=>exact absurd (hb.1 rfl) hG
 have gw:Hq (∀y,Br (vs.drop (i+1)) (cofF G v y)):=Hd λy=>by rw[g6]at ho;exact ho.cof y
 have gx:Hq (∀j,(lstJ most L (bs.take i) v (vs.drop (i+1)) G j).length<=most):=Hd (lstJ_le (aD hL) _ _ _ _);obtain⟨U,g5⟩:=Ex (lstJ most L (bs.take i) v (vs.drop (i+1)) G);rw[<-g5]at gx;have gu:Hq (∀(j:Nat) (H:List Bool),H.length=bs.length->H.take i=bs.take i->takeA most (U j) (offA ((H.set i (decide (j=1))).take (i+1)) (vs.drop (i+1)) (cofF G v (decide (j=1))))=U (j+1)):=Hd λj H e1 e2=>by
  have e3:(H.set i (decide (j=1))).take (i+1)=bs.take i++[decide (j=1)]:=by
   rw[XA (by rw[XE];omega),List.getElem_set_self,List.take_set_of_le (Xs _),e2]
  rw[e3,g5];rfl
 have gb:Hq (∀(nx':Int) (H:List Bool) (W':Wd),nx<=nx'->nx'<=nx+2*(X-1)->H.length=bs.length->H.take i=bs.take i->AlF c mb base0 base most av cv vs n room w0 wb o0 ws0 C (U 2) H fs nx' W'->DownR c mb base0 base most av cv vs n room w0 wb o0 ws0 C L bs fs nx i (d+1) G (.returned (Iv 0)) W'):=Hd λnx' H W' B Z F E Y=>⟨rfl,nx',H,B,by rw[gm];omega,F,E,by
  have e:takeA most L (offA (bs.take i) (vs.drop i) G)=U 2:=by
   rw[g6,offA_step,g5];exact(takeA_app most L _ _).symm
  rw[e];exact Y⟩
 have HH:=Hd h;have HK:=Hd hk;have gQ:=Hd h2;have gM:=Hd IH;have HR:=Hd hr;have gy:=Hd (AlB.keepB c c.fn mb base0 base most av cv (intL vs));have gW:((L.length:Int) == (most:Int))=false:=by simp;omega
 have gT:((i:Int) == (vs.length:Int))=false:=by simp;omega
 have gL:Hq (U 0=L):=Hd (by rw[g5];rfl);obtain⟨P,hP⟩:=Ex (DownR c mb base0 base most av cv vs n room w0 wb o0 ws0 C L bs fs nx i (d+1) G);rw[<-hP]at gb⊢;obtain⟨BM,g9⟩:∃z,z=c.bm:=⟨_,rfl⟩;obtain⟨BO,gn⟩:∃z,z=c.bo:=⟨_,rfl⟩;obtain⟨BV,g8⟩:∃z,z=c.bv:=⟨_,rfl⟩;obtain⟨BL,go⟩:∃z,z=c.bl:=⟨_,rfl⟩;obtain⟨BA,gq⟩:∃z,z=c.ba:=⟨_,rfl⟩;obtain⟨BD,gp⟩:∃z,z=c.bd:=⟨_,rfl⟩;have g0:c.caps=#[Pt BM,Pt BL,Pt BO,Pt BV,Pt BA,Pt BD]:=by rw[g9,gn,g8,go,gq,gp];rfl
 have gA:=Hd g0;rw[g0];rw[<-g9]at c2;rw[<-gn]at c4;rw[<-g8]at c5;rw[<-go]at c3;have gc:=Hd g9;have gP:=Hd g8;have h0:=Hd gq;have gZ:=Hd gp;have HV:=Hd hv;have gS:=Hd q;clear hP h hk h2 IH hG ho hL q gg gC gj D gm g6 g5 hr g0 g9 gn g8 go gq gp hv
 show Calls _ _ #[_,_,_,_,_,_,_,_] _ _
 go_enter func71,ntmps71
 go_wp2_with fail;refine gK.o.mono ?_;rintro x w' ⟨b,rfl,hb,rfl⟩;obtain rfl:=gN.o b hb;clear hb gN gK;go_wp2_with fail;clear c2 c3 c4 c5 gW gT
 go_loopw [14,15,16,46] (λ_ _ _ a wr=>∃(j:Nat) (nx':Int) (H:List Bool),j<=2/\a=Iv (j:Nat)/\Hq (nx<=nx'/\nx'<=nx+j*(X-1)/\H.length=bs.length/\H.take i=bs.take i/\AlF c mb base0 base most av cv vs n room w0 wb o0 ws0 C (U j) H fs nx' wr)) (λ_ _ _ a _=>2-(intOf a).toNat)
 case atStart=>exact⟨0,nx,bs,by omega,rfl,Hd ⟨ZY _,by simp,rfl,rfl,by rw[gL.o];exact HH.o⟩⟩
 case round=>
  clear HH gL;obtain⟨j,nx',H,hj,rfl,O⟩:=hrel
  by_cases h9:j<2
  ·have ha:(j:Int)<2:=by omega
   obtain⟨y,J⟩:=Ex (decide (j=1));have g4:H.length=vs.length:=O.o.2.2.1.trans gS.o;have h7:nx'<=nx+1*(X-1):=by
    have h1:=O.o.2.1;rcases(show j=0\/j=1 by omega)with rfl|rfl
    . simp at h1;omega
    . simpa using h1
   have gH:Bw wr wr.drew:=An wr 1;have HD:Hq (AlF c mb base0 base most av cv vs n room w0 wb o0 ws0 C (U j) H fs nx' wr.drew):=Hd (FxS.below (gy.o _ _) O.o.2.2.2.2 gH);obtain⟨e2,s,_,_,_,_,M,zoff,gl,t⟩:=HD.o.rd hi g4;rw[gl]at s;rw[<-gc.o]at e2;rw[<-gP.o]at s;rw[<-HV.o]at t;obtain⟨A,gd⟩:=Ex wr.drew;have gr:=Hd gd;rw[<-gd]at e2 s t HD
   have gz:Hq (∀T,T=A.alloc (.cells #[Iv v,.bool y] 58)->Cl 73 #[Pt mb,Iv k,.slice (some (Av A.heap.size)) 1 1] T λx w'=>x=.returned (.tuple #[Iv nx',Iv 0])/\AlF c mb base0 base most av cv vs n room w0 wb o0 ws0 C (U j) H (fs++[(nx',cofF G v y)]) (nx'+1) w'):=Hd λT hT=>FxS.cof1 (gy.o _ _) HD.o hn64 HK.o gD (by omega) (by
    refine Xz (Nat.add_le_add_right (XS _ ?_) _) HR.o;omega) hT
   have gt:Hq (∀I:List Bool,I.length=bs.length->I.take i=bs.take i->takeA most (U j) (offA ((I.set i y).take (i+1)) (vs.drop (i+1)) (cofF G v y))=U (j+1)):=Hd λI B Z=>by rw[J];exact gu.o j I B Z
   have gR:∀w:Wd,(Instr.index 129 (.agg #[.bool false,.bool true]) (Iv (j:Nat))).run prog w=.ok (.bool y) w:=λw=>by
    rcases(show j=0\/j=1 by omega)with rfl|rfl
    . rw[J];go_simp;rfl
    . rw[J];go_simp;rfl
   have hc:i<vs.length:=hi;have h5:=Hd gl;have gF:=Ad e2;have gG:=Ad s;have gi:=Ad t;clear gd gH J gu gl;go_upto_region 10 with fail;refine AJ (λW':Wd=>W'.cell? (Av BM)=some (Pt mb)/\W'.cell? (Av BV)=some (.slice (some (Aw M zoff)) vs.length cv)/\W'.cell? (Aw M (zoff+i))=some (Iv (v:Nat))) false 15 [(0,false),(1,false),(2,false),(3,false),(4,false),(5,false),(6,false),(7,false),(8,true),(9,true),(10,false),(11,false),(12,false),(13,false),(14,false)] (by kernel_rfl) (by kernel_rfl) (by rw[<-gr.o];exact⟨e2,s,t⟩) ?_;rw[<-gr.o];simp only[planned,AI]
   iterate 8
    refine A0 rfl ?_;apply Exists.intro;refine⟨λw' S=>?_,?_⟩
    . obtain⟨h1,h2,h3⟩:=S;go_simp;rfl
    simp only[Ab]
   have g7:=Ag A (.cells #[Iv (v:Nat),.bool y] 58);refine Ei rfl (w':=A.alloc (.cells #[Iv (v:Nat),.bool y] 58)) (v:=.slice (some (Av A.heap.size)) 1 1) (by go_simp) ⟨(g7.cell (p:=Av BM) gF).trans e2,(g7.cell (p:=Av BV) gG).trans s,(g7.cell (p:=(Aw M (zoff+i))) gi).trans t⟩ ?_;simp only[Ab];refine B7 (R:=λu w'=>u=.tuple #[Iv nx',Iv 0]/\AlF c mb base0 base most av cv vs n room w0 wb o0 ws0 C (U j) H (fs++[(nx',cofF G v y)]) (nx'+1) w') rfl (by go_simp) ((gz.o _ rfl).mono λe w' he=>?_) ?_
   ·obtain⟨rfl,h1⟩:=he;obtain⟨Z,Y,_,_,_,_,b',off',gk,q6⟩:=h1.rd hi g4;rw[gk]at Y;have g3:=h5.o;rw[gk]at g3;injection g3 with g3
    injection g3 with g1 g2 _
    subst g1;subst g2
    rw[<-gc.o]at Z;rw[<-gP.o]at Y;rw[<-HV.o]at q6;exact⟨_,rfl,⟨Z,Y,q6⟩,rfl,h1⟩
   rintro u w1-⟨rfl,K⟩;simp only[Ab]
   iterate 5
    refine A0 rfl ?_;apply Exists.intro;refine⟨λw' S=>?_,?_⟩
    . obtain⟨h1,h2,h3⟩:=S;go_simp;rfl
    simp only[Ab]
   refine B6 ?_;have h6:=Hd K;obtain⟨r2,r5,r6,r7,⟨b0,r8⟩,r9,_⟩:=K.rd hi g4;rw[<-h0.o]at r6;obtain⟨w2,ge⟩:=Ex (w1.setCell (Aw c.g i) (.bool y));have gJ:Hq (_=w2):=Hd ge.symm;have gB:Hq (AlF c mb base0 base most av cv vs n room w0 wb o0 ws0 C (U j) (H.set i y) (fs++[(nx',cofF G v y)]) (nx'+1) w2):=Hd (by rw[ge];exact FxS.putA K Q hw0 i y);have gI:(H.set i y).length=vs.length:=by rw[XE];exact g4
   obtain⟨s2,_,_,N,_⟩:=gB.o.rd hi gI;rw[<-gc.o]at s2;rw[<-gZ.o]at N;have s8:w2.cell? (Av BD)=some (.func (.func 71) #[] #[Pt BM,Pt BL,Pt BO,Pt BV,Pt BA,Pt BD]):=by rw[<-gA.o];exact N
   have gv:Hq (Cl 71 #[Iv nx',Iv ((i:Nat)+1),Pt BM,Pt BL,Pt BO,Pt BV,Pt BA,Pt BD] w2 (DownR c mb base0 base most av cv vs n room w0 wb o0 ws0 C (U j) (H.set i y) (fs++[(nx',cofF G v y)]) (nx'+1) (i+1) d (cofF G v y))):=Hd (by
    have:=gM.o (U j) (H.set i y) (fs++[(nx',cofF G v y)]) (nx'+1) w2 nx' (cofF G v y) gB.o (by simp) (gQ.o.app _) (gx.o j) (gw.o y) gI (by omega) (by
     refine Xz (Nat.add_le_add_right (XS _ ?_) _) HR.o;simp;omega)
    rw[gA.o]at this;exact this)
   have eg1:=enters_all1;have gU:((i:Nat):Int)+1=(i:Int)+1:=rfl;clear K ge N r2 r5 r7 e2 s t gF gG gi g7 gR gz gr gU;go_upto_region 14 with fail;rw[gJ.o];clear gJ r6 r8 r9 h6;go_wp2_with fail;refine gv.o.mono ?_;rintro x w3 ⟨rfl,f,I,B,Z,F,E,Y⟩;rw[<-HX.o]at Z;have gf:I.length=H.length:=by rw[F,XE]
   have gE:I.take i=bs.take i:=by
    have e1:(I.take (i+1)).take i=((H.set i y).take (i+1)).take i:=by rw[E]
    rw[List.take_take,List.take_take,Zo (Nat.le_succ i),List.take_set_of_le (Xs _)]at e1;rw[e1];exact O.o.2.2.2.1
   rw[gt.o H O.o.2.2.1 O.o.2.2.2.1]at Y;obtain⟨t2,_⟩:=AlF.rd Y hi (gf.trans g4);rw[<-gc.o]at t2;have gO:=Hd (FxS.drop1 Cf (gy.o _ _) gQ.o (r:=[]) Y (by omega) (T:=w3.alloc (.cells #[Iv nx'] 3)) rfl);have hN:f<=nx+((j+1:Nat):Int)*(X-1):=by
    have h1:=O.o.2.1;have e1:((j+1:Nat):Int)*(X-1)=(j:Int)*(X-1)+(X-1):=by rw[Int.natCast_add,Int.add_mul];simp
    omega
   have HN:=Hd hN;have gV:nx<=f:=by have:=O.o.1;omega
   have gY:=Hd (gf.trans O.o.2.2.1);have gX:=Hd gE;clear B Z F E Y gf gE hN gv s2 s8 gB gt O;go_wp2_with fail;refine gO.o.mono ?_;rintro x w4 ⟨rfl,h4⟩;rw[Y5]at h4;have H4:=Hd h4;clear h4 gO t2;go_wp2;go_roundw
   case rel=>exact⟨j+1,f,I,by omega,by go_num,Hd ⟨gV,HN.o,gY.o,gX.o,H4.o⟩⟩
   case measure=>simp[intOf];omega
  ·obtain rfl:j=2:=by omega
   have h8:¬ (2:Int)<2:=by omega
   have HF:=Hd (gb.o nx' H wr O.o.1 O.o.2.1 O.o.2.2.1 O.o.2.2.2.1 O.o.2.2.2.2);clear O gu gM gw gx;go_wp2_with fail
   first|exact HF.o|exact X2 (YD rfl _ _ _) rfl HF.o
end
section
variable {c:AlC}{mb base0 base most cv:Nat}{av:Option Addr}{vs:List Nat}{n room:Nat}{w0 wb:Wd}{o0:Own}{ws0:List Ev}{C:Nat->Prop}
def Xd (O:∀v∈vs,v<n)(hn64:n<=64)(b:most<=4096)(U:vs.length<=1000)(H:wb.heap.size<=base0)(hw0:w0.heap.size<=base0):
 ∀(d i:Nat),i+d=vs.length->∀(L:List (List Bool)) (bs:List Bool) (fs:List (Int×BF)) (nx:Int) (W:Wd) (k:Int) (G:BF),AlF c mb base0 base most av cv vs n room w0 wb o0 ws0 C L bs fs nx W->(k,G)∈fs->B2 fs->L.length<=most->Br (vs.drop i) G->bs.length=vs.length->nx+2^(d+1)<=549755813888->(fs.length+d)*2^n+(2^n+(2^n-1)*2^n)<=room ->
  Cl 71 (#[Iv k,Iv (i:Nat)]++c.caps) W (DownR c mb base0 base most av cv vs n room w0 wb o0 ws0 C L bs fs nx i d G):=by
 intro d
 induction d with
 | zero=>
   intro i X L bs fs nx W k G h hk h2 Y I g0 a Z;obtain rfl:i=vs.length:=by omega
   by_cases hs:(G=λ_=>false)\/L.length=most
   . exact down_stop h hk h2.zero Y hs
   . rw[aW]at I;exact down_end h hk h2.zero (by omega) b (λe=>hs (.inl e)) I g0 (by omega) H hw0
 | succ d f=>
   intro i X L bs fs nx W k G h hk h2 Y I g0 a Z
   by_cases hs:(G=λ_=>false)\/L.length=most
   . exact down_stop h hk h2.zero Y hs
   . exact down_step (d:=d) (i:=i) (f (i+1) (by omega)) h hk h2 (by omega) O hn64 (by omega) b (λe=>hs (.inl e)) I g0 U H hw0 a Z
end
section
variable {n room:Nat}{w0 w:Wd}{mb:Nat}{fs:List (Int×BF)}{nx:Int}{o o4:Own}{m m4:ManD}{V V4:Nat->BF}{ws0:List Ev}
def Xe (c:Ac o w)(hw0:w0.heap.size<=w.heap.size){most cv:Nat}{av:Option Addr}{vs:List Nat}(s:Aj w av (intL vs))(l:intL vs≠[]->∀x,av=some x->o x.block=none)
 {X Z O j I f U Y H:Wd} {g:Nat} (h3:Bw w X) (hs3:X.heap.size=w.heap.size+3)
 (c1:X.cell? (Av w.heap.size)=some (Pt mb)) (c2:∃u,X.heap[w.heap.size+1]?=some (.cells #[u] 3 (0,0))) (c3:X.cell? (Av (w.heap.size+2))=some (.slice av (intL vs).length cv))
 (hx:ChgX NoB o o4 X Z) (t:m4.waits <:+ ws0) (m:SatE As n (λ_=>True) room w0 mb fs nx Z o4 m4 V4)
 (r:O=Z.setCell (Av (w.heap.size+1)) (Iv (most:Nat))) (B:j=O.alloc (.cells #[.slice none 0 0] 34))
 (G:OwnB I j.heap.size (.slice (some (Av g)) vs.length vs.length) (List.replicate vs.length false)) (D:Bw j I)
 (A:f=I.alloc (.cells #[.slice none 0 0] 28)) (z:U=f.setCell (Av I.heap.size) (.slice (some (Av g)) vs.length vs.length))
 (b:Y=U.alloc (.cells #[.nilFunc] 127)) {C:AlC} (hC:C=⟨w.heap.size,w.heap.size+1,w.heap.size+2,O.heap.size,I.heap.size,U.heap.size,g⟩) (a:H=Y.setCell (Av U.heap.size) C.fn):
 AlF C mb w.heap.size H.heap.size most av cv vs n room w0 w o ws0 NoB [] (List.replicate vs.length false) fs nx H:=by
 obtain⟨L,c2⟩:=c2;have gc:=hx.size;have s5:O.heap.size=Z.heap.size:=by rw[r];simp[World.setCell]
 have s6:j.heap.size=O.heap.size+1:=by rw[B];simp
 have s7:=D.size;have s8:f.heap.size=I.heap.size+1:=by rw[A];simp
 have s9:U.heap.size=f.heap.size:=by rw[z];simp[World.setCell]
 have N:Y.heap.size=U.heap.size+1:=by rw[b];simp
 have M:H.heap.size=Y.heap.size:=by rw[a];simp[World.setCell]
 have hg:=G.lt g rfl;have b6:Bw O j:=by rw[B];exact Ag _ _
 have b8:Bw I f:=by rw[A];exact Ag _ _
 have b9:Bw I U:=by rw[z];exact b8.setCell (Xs _) _
 have F:Bw I Y:=by rw[b];exact b9.alloc (by omega) _
 have d:Bw I H:=by rw[a];exact F.setCell (by show I.heap.size<=U.heap.size;omega) _
 have E:Bw O I:=b6.trans (D.mono (by omega));have b511:Bw O H:=E.trans (d.mono (by omega));have o3:∀k,w.heap.size<=k->k<X.heap.size->o k=none:=λk hk _=>c.none hk
 have J:∀k,w.heap.size<=k->k<X.heap.size->o4 k=none:=λk hk h=>hx.none' h (c.none hk)
 have ob:∀k,Z.heap.size<=k->o4 k=none:=λk hk=>m.lt.none hk
 have g6:∀k,w.heap.size<=k->k<X.heap.size->Z.heap[k]?=X.heap[k]?:=λk h1 h2=>hx.block k h2 (c.none h1) (λe=>e)
 have gb:∀k,k≠w.heap.size+1->O.heap[k]?=Z.heap[k]?:=λk hk=>by rw[r];exact Az hk _
 have g2:Z.heap[w.heap.size+1]?=some (.cells #[L] 3 (0,0)):=(g6 _ (by omega) (by omega)).trans c2;have v:O.heap[w.heap.size+1]?=some (.cells #[Iv (most:Nat)] 3 (0,0)):=by rw[r];exact A2 g2 _
 have K:Wr (λk=>k=w.heap.size+1) Z H:=by
  have h1:Wr (λk=>k=w.heap.size+1) Z O:=by rw[r];exact(Wr.refl (λk=>k=w.heap.size+1) Z).setCell (p:=(Av (w.heap.size+1))) (.inl rfl) _
  exact h1.trans (Wr.of_below b511 (λ_=>False)) (λ_ _ e=>e) (λ_ _ e=>e.elim)
 have g5:∀k,w.heap.size<=k->k<X.heap.size->k≠w.heap.size+1->H.heap[k]?=X.heap[k]?:=λk h1 h2 h5=>((b511.block k (by omega)).trans (gb k h5)).trans (g6 k h1 h2)
 have W:H.cell? (Av w.heap.size)=some (Pt mb):=Co c1 (g5 w.heap.size (Xs _) (by omega) (by omega));have V:H.cell? (Av (w.heap.size+1))=some (Iv (most:Nat)):=cell1 ((b511.block _ (by omega)).trans v);have T:H.cell? (Av (w.heap.size+2))=some (.slice av (intL vs).length cv):=Co c3 (g5 (w.heap.size+2) (by omega) (by omega) (by omega));have S:H.heap[O.heap.size]?=some (.cells #[.slice none 0 0] 34 (0,0)):=by
  rw[d.block _ (by omega),D.block _ (by omega),B];exact Xv _ _
 have g8:f.heap[I.heap.size]?=some (.cells #[.slice none 0 0] 28 (0,0)):=by rw[A];exact Xv _ _
 have g9:U.heap[I.heap.size]?=some (.cells #[.slice (some (Av g)) vs.length vs.length] 28 (0,0)):=by rw[z];exact A2 g8 _
 have y:Y.heap[U.heap.size]?=some (.cells #[.nilFunc] 127 (0,0)):=by rw[b];exact Xv _ _
 have Q:H.heap[U.heap.size]?=some (.cells #[C.fn] 127 (0,0)):=by rw[a];exact A2 y _
 have R:H.heap[I.heap.size]?=some (.cells #[.slice (some (Av g)) vs.length vs.length] 28 (0,0)):=by
  rw[a,Az (by show I.heap.size≠U.heap.size;omega),b,X1 _ _ (by omega)];exact g9
 have g7:OwnB H w.heap.size (.slice (some (Av g)) vs.length vs.length) (List.replicate vs.length false):=OwnC.lower (OwnC.below G d) (by omega);have g3:ChgX NoB o o4 w H:=by
  have h1:=(ChgX.of_below h3 o NoB).trans hx NoB.sub;exact h1.trans (ChgX.of_wr (C:=λk=>k=w.heap.size+1) K o4 (λ_ _ q=>q)) (λk hk q=>by omega)
 subst hC;refine⟨o4,m4,V4,g3,t,m.other K (λk _ q=>⟨by omega,by rw[q];exact J _ (by omega) (by omega)⟩),⟨W,V,T,?_,cell1 Q,?_,λg1 x g4=>?_,?_,⟨.slice none 0 0,[],⟨S,J7 _ _ _,BlsAt.nil _,λk hk=>(by cases hk),λi h=>(by simp at h)⟩⟩,?_,?_,Xs _⟩⟩
 . rw[Yp];exact cell1 R
 . exact s.sameN λg1 x g4 ga=>g3.block _ ga (l g1 x g4) (λe=>e)
 . subst g4;exact⟨g3.none' (s.blk g1) (l g1 x rfl),s.blk g1⟩
 . rw[Yp];exact g7
 ·intro k hk;have g0:∀k,w.heap.size<=k->k<H.heap.size->(k<X.heap.size\/Z.heap.size<=k)->o4 k=none/\w.heap.size<=k/\k<H.heap.size:=λk h1 h2 h3=>⟨h3.elim (λh=>J k h1 h) (λh=>ob k h),h1,h2⟩
  rcases hk with e|e|e|e|e|e|e
  . have e:k=w.heap.size:=e;exact g0 k (by omega) (by omega) (by omega)
  . have e:k=w.heap.size+1:=e;exact g0 k (by omega) (by omega) (by omega)
  . have e:k=w.heap.size+2:=e;exact g0 k (by omega) (by omega) (by omega)
  . have e:k=O.heap.size:=e;exact g0 k (by omega) (by omega) (by omega)
  . have e:k=I.heap.size:=e;exact g0 k (by omega) (by omega) (by omega)
  . have e:k=U.heap.size:=e;exact g0 k (by omega) (by omega) (by omega)
  . have e:k=g:=e;exact g0 k (by omega) (by omega) (by omega)
 ·refine⟨?_,?_,?_,?_,?_,?_,?_,?_,?_,?_,?_⟩
  . show O.heap.size≠w.heap.size;omega
  . show O.heap.size≠w.heap.size+1;omega
  . show O.heap.size≠w.heap.size+2;omega
  . show O.heap.size≠I.heap.size;omega
  . show O.heap.size≠U.heap.size;omega
  . show O.heap.size≠g;omega
  . show g≠w.heap.size;omega
  . show g≠w.heap.size+1;omega
  . show g≠w.heap.size+2;omega
  . show g≠I.heap.size;omega
  . show g≠U.heap.size;omega
end
section
variable {n:Nat}{room:Nat}{w0 w:Wd}{mb:Nat}{fs:List (Int×BF)}{nx:Int}{o:Own}{m:ManD}{V:Nat->BF}{ws0:List Ev}
def BZ (z:Int):Nat:=(min (max z 0) 4096).toNat
def AllR (n:Nat)(G:BF)(zs:List Int)(z:Int)(e:Int)(v:Value)(W:Wd)(o:Own):Prop:=
 (chkE n G zs≠0/\e=chkE n G zs/\v=.slice none 0 0)\/(chkE n G zs=0/\e=0/\∃vs,zs=intL vs/\∃base bl xs,AlL base bl ((allL vs G).take (BZ z)) v xs W o/\o bl=none)
def Xf (h:SatE As n (λ_=>True) room w0 mb fs nx w o m V)(s:m.waits <:+ ws0)(L:B2 fs)(hn6:n<=6){kf:Int}{G:BF}(J:(kf,G)∈fs){zs:List Int}{a:Option Addr}{c:Nat}(hz:Aj w a zs)(F:zs≠[]->∀x,a=some x->o x.block=none)(z:Int)(hn:nx+200<549755813888)(hr:(fs.length+6)*2^n+(2^n+(2^n-1)*2^n)<=room):
 Cl 25 #[Pt mb,Iv kf,Iv z,.slice a zs.length c] w λx w'=>∃v e,x=.returned (.tuple #[v,Iv e])/\SpP n room w0 mb fs nx ws0 o w (AllR n G zs z e v) w':=by
 have gr:=h.chg.size;obtain⟨w1,g9⟩:=Ex (w.alloc (.cells #[Pt mb] 33));obtain⟨w2,g8⟩:=Ex (w1.alloc (.cells #[Iv z] 3));obtain⟨Z,g7⟩:=Ex (w2.alloc (.cells #[.slice a zs.length c] 22));have gy:Hq (_=w1):=Hd g9.symm;have gx:Hq (_=w2):=Hd g8.symm;have gw:Hq (_=Z):=Hd g7.symm;have g0:Bw w w1:=by rw[g9];exact Ag _ _
 have gg:Bw w1 w2:=by rw[g8];exact Ag _ _
 have gf:Bw w2 Z:=by rw[g7];exact Ag _ _
 have M:w1.heap.size=w.heap.size+1:=by rw[g9];simp
 have gi:w2.heap.size=w.heap.size+1+1:=by rw[g8];simp[M]
 have gC:Z.heap.size=w.heap.size+1+1+1:=by rw[g7];simp[gi]
 have g1:w1.heap[w.heap.size]?=some (.cells #[Pt mb] 33 (0,0)):=by rw[g9];exact Xv _ _
 have g2:w2.heap[w.heap.size+1]?=some (.cells #[Iv z] 3 (0,0)):=by rw[<-M,g8];exact Xv _ _
 have g3:Z.heap[w.heap.size+1+1]?=some (.cells #[.slice a zs.length c] 22 (0,0)):=by rw[<-gi,g7];exact Xv _ _
 have hb:Bw w Z:=(g0.trans (gg.mono g0.size)).trans (gf.mono (Xz g0.size gg.size));have c1:Z.cell? (Av w.heap.size)=some (Pt mb):=cell1 ((gf.block _ (by omega)).trans ((gg.block _ (by omega)).trans g1));have f:Z.heap[w.heap.size+1]?=some (.cells #[Iv z] 3 (0,0)):=(gf.block _ (by omega)).trans g2;have D:Z.cell? (Av (w.heap.size+2))=some (.slice a zs.length c):=cell1 g3;have gq:=Hd (Ip (h.below hb) J (c:=c) (hz.below hb));obtain⟨P,t⟩:=Ex (λx w'=>∃v e,x=.returned (.tuple #[v,Iv e])/\SpP n room w0 mb fs nx ws0 o w (AllR n G zs z e v) w':Ending->Wd->Prop)
 have gd:Hq (∀H v,AskN As n (λ_=>True) room w0 mb fs nx m o Z H v->chkE n G zs≠0->P (.returned (.tuple #[.slice none 0 0,Iv (chkE n G zs)])) H):=Hd λH v K d=>by
  rw[t];obtain⟨o4,m4,V4,r,W,_,T,_⟩:=K;exact⟨_,_,rfl,nx,o4,m4,V4,ZY _,by omega,(ChgX.of_below hb o NoB).trans r NoB.sub,by rw[W];exact s,T,.inl ⟨d,rfl,rfl⟩⟩
 have gn:Hq (∀H v,AskN As n (λ_=>True) room w0 mb fs nx m o Z H v->Z.heap.size<=H.heap.size/\H.heap[w.heap.size]?=Z.heap[w.heap.size]?/\H.heap[w.heap.size+1]?=Z.heap[w.heap.size+1]?/\H.heap[w.heap.size+2]?=Z.heap[w.heap.size+2]?):=Hd λH v K=>by
  obtain⟨o4,m4,V4,r,W,_,T,_⟩:=K;exact⟨r.size,r.block _ (by omega) (h.lt.none (Xs _)) (λe=>e),r.block _ (by omega) (h.lt.none (by omega)) (λe=>e),r.block _ (by omega) (h.lt.none (by omega)) (λe=>e)⟩
 have gh:Hq (∀H v4,AskN As n (λ_=>True) room w0 mb fs nx m o Z H v4->chkE n G zs=0->∀Y k b A X I U g,Y=H.setCell (Av (w.heap.size+1)) (Iv (BZ z:Nat))->k=Y.alloc (.cells #[.slice none 0 0] 34)->OwnB b k.heap.size (.slice (some (Av g)) zs.length zs.length) (List.replicate zs.length false)->Bw k b ->
  A=b.alloc (.cells #[.slice none 0 0] 28)->X=A.setCell (Av b.heap.size) (.slice (some (Av g)) zs.length zs.length)->I=X.alloc (.cells #[.nilFunc] 127) ->
  U=I.setCell (Av X.heap.size) (.func (.func 71) #[] #[Pt w.heap.size,Pt Y.heap.size,Pt (w.heap.size+1),Pt (w.heap.size+2),Pt b.heap.size,Pt X.heap.size]) ->
  Cl 71 #[Iv kf,Iv 0,Pt w.heap.size,Pt Y.heap.size,Pt (w.heap.size+1),Pt (w.heap.size+2),Pt b.heap.size,Pt X.heap.size] U λx w'=>x=.returned (Iv 0)/\∃v,w'.cell? (Av Y.heap.size)=some v/\P (.returned (.tuple #[v,Iv 0])) w'):=Hd λH v4 K d Y k b A X I U g y C q7 b7 R B j i=>by
  obtain⟨vs,u,gH,gE,gD,gt,_⟩:=Ed (h.dep J) d;subst u;rw[Cw]at q7 B;obtain⟨o4,m4,V4,r,W,_,T,_⟩:=K;have hm:BZ z<=4096:=by unfold BZ;omega
  have gA:=Xe (most:=BZ z) h.lt gr hz F hb (by omega) c1 ⟨_,f⟩ D r (by rw[W];exact s) T y C q7 b7 R B j rfl i;have hX:(2:Int)^(vs.length+1)<=128:=by
   have:(2:Nat)^(vs.length+1)<=2^7:=X8 (by omega) (by omega);have h2:((2^(vs.length+1):Nat):Int)=(2:Int)^(vs.length+1):=by simp
   omega
  have hd:=Xd (c:=⟨w.heap.size,w.heap.size+1,w.heap.size+2,Y.heap.size,b.heap.size,X.heap.size,g⟩) (av:=a) gE (by omega) hm (by omega) (Xs _) gr vs.length 0 (by omega) [] (List.replicate vs.length false) fs nx U kf G gA J L (X0 _) gD (by simp) (by omega) (Xz (Nat.add_le_add_right (XS _ (by omega)) _) hr);refine hd.mono ?_;rintro x w' ⟨rfl,nx',bs',r1,r2,_,_,r5⟩;obtain⟨o5,m5,V5,t1,t2,t3,t4⟩:=r5;obtain⟨v,xs,hl⟩:=t4.l;refine⟨rfl,v,cell1 hl.box,?_⟩;rw[t];refine⟨v,0,rfl,nx',o5,m5,V5,r1,by omega,t1,t2,t3,.inr ⟨d,rfl,vs,rfl,U.heap.size,Y.heap.size,xs,?_,(t4.no Y.heap.size (.inr (.inr (.inr (.inl rfl))))).1⟩⟩;have e:takeA (BZ z) [] (offA ((List.replicate vs.length false).take 0) (vs.drop 0) G)=(allL vs G).take (BZ z):=by
   unfold takeA offA;simp
  rw[<-e];exact hl
 have gb:zs.length<=1000000\/chkE n G zs≠0:=by
  by_cases d:chkE n G zs=0
  . obtain⟨vs,u,_,_,_,gt,_⟩:=Ed (h.dep J) d;rw[u,Cw];exact .inl (by omega)
  . exact .inr d
 have g5:=Hd gb;have gz:Hq (min (max z 0) 4096=((BZ z:Nat):Int)):=Hd (by unfold BZ;omega);have gI:∀(fn:Fn) (first cap:Array Value) (w:Wd),(Instr.makeFunc fn first cap).run prog w=.ok (.func fn first cap) w:=λ_ _ _ _=>rfl
 obtain⟨ce,gj⟩:∃e,e=chkE n G zs:=⟨_,rfl⟩;have gB:=gj;rw[<-gj]at gq gd gh g5
 show Calls _ _ _ _ λx w'=>∃v e,x=.returned (.tuple #[v,Iv e])/\SpP n room w0 mb fs nx ws0 o w (AllR n G zs z e v) w'
 rw[<-t];obtain⟨O,gk⟩:=Ex w.heap.size;rw[<-gk]at gn gh c1 f D
 change Z.cell? (Av (O+1+1))=_ at D
 have e31:w1.heap.size=O+1:=by omega
 have e32:w2.heap.size=O+2:=by omega
 clear t h s L J hz F hr g9 g8 g7 g0 gg gf M gi gC g1 g2 g3 hb gj gb gB
 go_enter func25,ntmps25
 go_upto_region 1 with fail;rw[gy.o,gx.o,gw.o,<-gk];clear gy gx gw gk e31 e32;go_wp2_with fail;refine gq.o.mono ?_;rintro x H ⟨v,rfl,hv,g4⟩;obtain⟨k1,k2,k3,k4⟩:=gn.o H v g4;have d1:H.cell? (Av O)=some (Pt mb):=Co c1 k2;have d2:H.cell? (Av (O+1))=some (Iv z):=cell1 (k3.trans f);have d3:H.cell? (Av (O+1+1))=some (.slice a zs.length c):=Co D k4;have g6:=Hd (gd.o H v g4);have gc:=Hd (gh.o H v g4);clear gd gh gn g4 gq
 by_cases d:ce=0
 ·have go:=Hd (gc.o d);have gb:zs.length<=1000000:=by
   rcases g5.o with e|e
   . exact e
   . exact absurd d e
  clear gc g6 g5;rw[d];clear hv d;have f2:H.frozen? (Av (O+1))=false:=by simp[World.frozen?,k3,f]
  obtain⟨Y,y⟩:=Ex (H.setCell (Av (O+1)) (Iv (BZ z:Nat)));have gv:Hq (_=Y):=Hd y.symm;have H5:=Hd y;have x3:Y.cell? (Av (O+1+1))=some (.slice a zs.length c):=(XR (w:=H) (by rw[y];exact Az (by show O+1+1≠O+1;omega) _)).trans d3;have s5:H.heap.size=Y.heap.size:=by rw[y];simp[World.setCell]
  clear y;obtain⟨k,C⟩:=Ex (Y.alloc (.cells #[.slice none 0 0] 34));have gu:Hq (_=k):=Hd C.symm;have H6:=Hd C;have y3:k.cell? (Av (O+1+1))=some (.slice a zs.length c):=by rw[C];exact((Ag Y _).cell (p:=(Av (O+1+1))) (Ad x3)).trans x3
  clear C;clear k2 k3 k4 c1 D f d1 d3 x3;go_upto_region 6 with fail;rw[gz.o,gv.o,gu.o];clear gz gv gu s5 f2 d2;go_upto_region 7 with (at_make;refine C7 C6 rfl _ _ rfl k.heap.size k _ zs.length rfl rfl rfl (by omega) (Xs _) (X7 _ _) ?_;intro g b ge g0 M gF gJ gG;clear gG)
  obtain⟨A,R⟩:=Ex (b.alloc (.cells #[.slice none 0 0] 28));obtain⟨X,B⟩:=Ex (A.setCell (Av b.heap.size) (.slice (some (Av g)) zs.length zs.length));have Q:b.alloc (.cells #[.slice (some (Av g)) zs.length zs.length] 28)=X:=by rw[B,R];go_simp
  rw[Q];obtain⟨I,j⟩:=Ex (X.alloc (.cells #[.nilFunc] 127));obtain⟨U,i⟩:=Ex (I.setCell (Av X.heap.size) (.func (.func 71) #[] #[Pt O,Pt Y.heap.size,Pt (O+1),Pt (O+1+1),Pt b.heap.size,Pt X.heap.size]));have gp:=Hd (go.o Y k b A X I U g H5.o H6.o (by unfold OwnB AA;rw[List.map_replicate];exact ge) g0 R B j i)
  change Hq (Calls _ _ #[_,_,_,_,_,Pt (O+1+1),_,_] _ _)at gp
  have q:I.heap[X.heap.size]?=some (.cells #[.nilFunc] 127 (0,0)):=by rw[j];exact Xv _ _
  have E:I.cell? (Av X.heap.size)=some .nilFunc:=cell1 q;have N:I.frozen? (Av X.heap.size)=false:=by simp[World.frozen?,q]
  have q11:U.cell? (Av X.heap.size)=some (.func (.func 71) #[] #[Pt O,Pt Y.heap.size,Pt (O+1),Pt (O+1+1),Pt b.heap.size,Pt X.heap.size]):=cell1 (by rw[i];exact A2 q _);have gm:Hq (_=I):=Hd j.symm;have gl:Hq (_=U):=Hd i.symm;clear go H5 H6 ge g0 R Q M gF y3;clear B q j i;go_upto_region 8 with fail;rw[gm.o];go_upto_region 9 with fail;rw[C4 E N rfl,gl.o];clear gm gl N E;go_wp2_with fail;refine gp.o.mono ?_;rintro x w12 ⟨rfl,vl,gt,t⟩;have S:=Hd t;clear t gp q11;go_wp2_with fail
  first|exact S.o|exact X2 (Yh rfl _ _ _) rfl S.o
 ·have S:=Hd (g6.o d);clear g6 gc g5 hv k2 k3 k4 c1 D f;go_wp2_with fail
  first|exact S.o|exact X2 (Yh rfl _ _ _) rfl S.o
end
def allZ (n:Nat)(G:BF)(zs:List Int):List (List Bool):=if chkE n G zs=0 then allL (zs.map Int.toNat) G else []
def leE (n:Nat)(G:BF)(zs:List Int):Int:=if chkE n G zs≠0 then chkE n G zs else if allZ n G zs=[]then 20 else 0
def atE (n:Nat)(G:BF)(zs:List Int)(k:Nat):Int:=if chkE n G zs≠0 then chkE n G zs else if(allZ n G zs).length<=k then 2 else 0
def SpT (n room:Nat)(w0:Wd)(mb:Nat)(fs:List (Int×BF))(nx:Int)(ws0:List Ev)(B:Wd->Own->Prop)(W:Wd):Prop:=
 ∃o m V,m.waits <:+ ws0/\SatE As n (λ_=>True) room w0 mb fs nx W o m V/\B W o
def RowN (v:Value)(bs:List Bool)(W:Wd)(o:Own):Prop:=Ay W v bs/\(bs≠[]->∀q,v.ownBlock=some q->o q=none)
def RowN.keepB (v:Value)(bs:List Bool):AX (RowN v bs):=λ_ _ _ _ h I=>
 ⟨h.1.sameN λH q e O=>I.block q O (h.2 H q e) (λe=>e),λH q e=>I.none' (h.1.blk H e) (h.2 H q e)⟩
def IntN (a:Option Addr)(zs:List Int)(W:Wd)(o:Own):Prop:=Aj W a zs/\(zs≠[]->∀x,a=some x->o x.block=none)
def IntN.keepB (a:Option Addr)(zs:List Int):AX (IntN a zs):=λ_ _ _ _ h O=>⟨h.1.sameN λH x hx I=>O.block _ I (h.2 H x hx) (λe=>e),λH x hx=>O.none' (by subst hx;exact h.1.blk H) (h.2 H x hx)⟩
def K6 {A B:Wd->Own->Prop}(O:AX A)(I:AX B):AX λW o=>A W o/\B W o:=λ_ _ _ _ h H=>⟨O _ _ _ _ h.1 H,I _ _ _ _ h.2 H⟩
def RowN.nil (W:Wd)(o:Own):RowN (.slice none 0 0) [] W o:=⟨⟨none,0,rfl,⟨by simp,λk h=>by simp at h⟩,λ_=>rfl⟩,λh=>absurd rfl h⟩
def RowN.of {v:Value}{bs:List Bool}{W:Wd}{o:Own}(h:Ay W v bs)(h2:∀q,v.ownBlock=some q->o q=none):RowN v bs W o:=⟨h,λ_=>h2⟩
def Dr {n:Nat}{G:BF}{vs:List Nat}(h:chkE n G (intL vs)=0):allZ n G (intL vs)=allL vs G:=by unfold allZ;rw[Xx h,It]
def AlL.bls {base bl:Nat}{L:List (List Bool)}{v:Value}{xs:List Value}{W:Wd}{o:Own}(h:AlL base bl L v xs W o)(hl:L.length<=9223372036854775807):BlsIs W v L:=BlsIs.of_own h.own h.at_ hl
def BlsIs.nil (W:Wd):BlsIs W (.slice none 0 0) []:=⟨none,0,[],rfl,λ_=>rfl,by simp,BlsAt.nil W,λi h=>by simp at h⟩
section
variable {n room:Nat}{w0 W W1:Wd}{mb:Nat}{fs:List (Int×BF)}{nx:Int}{ws0:List Ev}{B:Wd->Own->Prop}{kf:Int}{G:BF}{zs:List Int}{a:Option Addr}{c:Nat}
def SpT.below (H:AX B)(h:SpT n room w0 mb fs nx ws0 B W)(hb:Bw W W1):SpT n room w0 mb fs nx ws0 B W1:=by
 obtain⟨o,m,V,h1,h2,h3⟩:=h;exact⟨o,m,V,h1,h2.below hb,H _ _ _ _ h3 (ChgX.of_below hb o NoB)⟩
def SpT.below0 (h:SpT n room w0 mb fs nx ws0 B W):Bw w0 W:=by
 obtain⟨o,m,V,_,h2,_⟩:=h;exact h2.chg.below0
structure PkH (n room:Nat)(fs:List (Int×BF))(nx:Int)(B:Wd->Own->Prop)(kf:Int)(G:BF)(zs:List Int)(a:Option Addr)(c:Nat):Prop where
 b2:B2 fs
 mem:(kf,G)∈fs
 ints:∀W o,B W o->Aj W a zs
 cap:zs.length<=c
 no:∀W o,B W o->zs≠[]->∀x,a=some x->o x.block=none
 keep:AX B
 nx:nx+200<549755813888
 n6:n<=6
 room:(fs.length+6)*2^n+(2^n+(2^n-1)*2^n)<=room
def PkH.room1 (k:PkH n room fs nx B kf G zs a c):(fs.length+1)*2^n+(2^n+(2^n-1)*2^n)<=room:=Xz (Nat.add_le_add_right (XS _ (by omega)) _) k.room
def SpT.next {nx':Int}{o o':Own}{m':ManD}{V':Nat->BF}{w':Wd}{P:Wd->Own->Prop}(X:AX B)(hb:B W o)(O:ChgX NoB o o' W w')(I:m'.waits <:+ ws0)(H:SatE As n (λ_=>True) room w0 mb fs nx' w' o' m' V')(U:P w' o'):SpT n room w0 mb fs nx' ws0 (λW o=>B W o/\P W o) w':=
 ⟨o',m',V',I,H,X _ _ _ _ hb O,U⟩
def Xg (k:PkH n room fs nx B kf G zs a c)(h:SpT n room w0 mb fs nx ws0 B W):
 Cl 29 #[Pt mb,Iv kf,.slice a zs.length c] W λx w'=>∃v nx',x=.returned (.tuple #[v,Iv (leE n G zs)])/\nx'<=nx+200/\SpT n room w0 mb fs nx' ws0 (λW o=>B W o/\RowN v ((allZ n G zs).getD 0 []) W o) w':=by
 obtain⟨o,m,V,h1,h2,h3⟩:=h;refine(Pd h2 h1 k.b2 k.mem (k.ints _ _ h3) k.cap (k.no _ _ h3) k.nx k.room1).mono ?_;rintro x w' ⟨v,e,rfl,nx',o',m',V',f,Z,Y,X,U,O⟩;rcases O with ⟨H,rfl,rfl⟩|⟨H,vs,rfl,O⟩
 . refine⟨_,nx',by rw[leE,Xx H],Z,SpT.next k.keep h3 Y X U ?_⟩;rw[allZ,Xu H];exact RowN.nil _ _
 ·rcases O with ⟨I,rfl,rfl⟩|⟨ds,I,rfl,d,b⟩
  . refine⟨_,nx',by rw[leE,Xu (by simp[H]),Dr H,Xx I],Z,SpT.next k.keep h3 Y X U ?_⟩;rw[Dr H,I];exact RowN.nil _ _
  . refine⟨_,nx',by rw[leE,Xu (by simp[H]),Dr H,Xu (λe=>by rw[e]at I;cases I)],Z,SpT.next k.keep h3 Y X U ?_⟩;rw[Dr H,List.getD,I];exact RowN.of d b
def Xh (k:PkH n room fs nx B kf G zs a c)(h:SpT n room w0 mb fs nx ws0 B W1)(hb:Bw W1 W){b:Value}{i:Nat}(hk:NatV W b i)(d:∀q,b.ownBlock=some q->W1.heap.size<=q):
 Cl 26 #[Pt mb,Iv kf,b,.slice a zs.length c] W λx w'=>∃v nx',x=.returned (.tuple #[v,Iv (atE n G zs i)])/\nx'<=nx+200/\SpT n room w0 mb fs nx' ws0 (λW o=>B W o/\RowN v ((allZ n G zs).getD i []) W o) w':=by
 obtain⟨o,m,V,h1,h2,h3⟩:=h;have g0:=h2.lt;have h3:=k.keep _ _ _ _ h3 (ChgX.of_below hb o NoB);refine(Pg (h2.below hb) h1 k.b2 k.mem (k.ints _ _ h3) k.cap (k.no _ _ h3) hk (λ_ q e=>g0.none (d q e)) k.nx k.room1).mono ?_;rintro x w' ⟨v,e,rfl,nx',o',m',V',j,Z,Y,X,U,O⟩;rcases O with ⟨H,rfl,rfl⟩|⟨H,vs,rfl,O⟩
 . refine⟨_,nx',by rw[atE,Xx H],Z,SpT.next k.keep h3 Y X U ?_⟩;rw[allZ,Xu H];exact RowN.nil _ _
 ·rcases O with ⟨I,rfl,rfl⟩|⟨ds,I,rfl,g,f⟩
  . refine⟨_,nx',by rw[atE,Xu (by simp[H]),Dr H,Xx I],Z,SpT.next k.keep h3 Y X U ?_⟩;rw[Dr H,List.getD,XC I];exact RowN.nil _ _
  . refine⟨_,nx',by rw[atE,Xu (by simp[H]),Dr H,Xu (by have:=(XI.1 I).1;omega)],Z,SpT.next k.keep h3 Y X U ?_⟩;rw[Dr H,List.getD,I];exact RowN.of g f
def BlsN (v:Value)(L:List (List Bool))(W:Wd)(o:Own):Prop:=∃base bl xs,((v=.slice none 0 0/\L=[])\/AlL base bl L v xs W o/\o bl=none)
def BlsN.is {v:Value}{L:List (List Bool)}{o:Own}(h:BlsN v L W o)(hl:L.length<=9223372036854775807):BlsIs W v L:=by
 obtain⟨base,bl,xs,⟨rfl,rfl⟩|⟨h1,_⟩⟩:=h
 . exact BlsIs.nil _
 . exact h1.bls hl
def Xi (k:PkH n room fs nx B kf G zs a c)(h:SpT n room w0 mb fs nx ws0 B W)(z:Int):
 Cl 25 #[Pt mb,Iv kf,Iv z,.slice a zs.length c] W λx w'=>∃v nx',x=.returned (.tuple #[v,Iv (chkE n G zs)])/\nx'<=nx+200/\SpT n room w0 mb fs nx' ws0 (λW o=>B W o/\BlsN v ((allZ n G zs).take (BZ z)) W o) w':=by
 obtain⟨o,m,V,h1,h2,h3⟩:=h;refine(Xf h2 h1 k.b2 k.n6 k.mem (k.ints _ _ h3) (k.no _ _ h3) z k.nx k.room).mono ?_;rintro x w' ⟨v,e,rfl,nx',o',m',V',d,X,U,O,I,b⟩;rcases b with ⟨H,rfl,rfl⟩|⟨H,rfl,vs,rfl,base,bl,xs,Z,Y⟩
 . exact⟨_,nx',rfl,X,SpT.next k.keep h3 U O I ⟨0,0,[],.inl ⟨rfl,by rw[allZ,Xu H,List.take_nil]⟩⟩⟩
 . exact⟨_,nx',by rw[H],X,SpT.next k.keep h3 U O I ⟨base,bl,xs,.inr ⟨by rw[Dr H];exact Z,Y⟩⟩⟩
def Xj:(allZ n G zs).length<=2^zs.length:=by
 unfold allZ;split
 ·have:=FU (zs.map Int.toNat) G
  rwa [XT]at this
 . simp
end
def Ee (z lo hi:Int):Int:=if z<lo then lo else if z>hi then hi else z
def Xk (z lo hi:Int)(w:Wd):Cl 30 #[Iv z,Iv lo,Iv hi] w (Sm (Iv (Ee z lo hi)) w):=by
 by_cases h1:z<lo
 ·have e:Ee z lo hi=lo:=Xx h1;rw[e]
  go_enter func30,ntmps30
  go_wp2;go_ret;exact⟨rfl,rfl⟩
 ·by_cases h2:z>hi
  ·have e:Ee z lo hi=hi:=by unfold Ee;rw[Xu h1,Xx h2]
   rw[e]
   go_enter func30,ntmps30
   go_wp2;go_ret;exact⟨rfl,rfl⟩
  ·have e:Ee z lo hi=z:=by unfold Ee;rw[Xu h1,Xu h2]
   rw[e]
   go_enter func30,ntmps30
   go_wp2;go_ret;exact⟨rfl,rfl⟩
def Xl (L:List (List Bool))(v1 v2:Value)(w:Wd)(h1:BlsIs w v1 L)(h2:BlsIs w v2 L):
 Cl 31 #[v1,v2] w (Bl (.bool true) w):=by
 have f:=Hd h1;have d:=Hd h2;have g:L.length<=9223372036854775807:=by obtain⟨_,_,_,_,_,h,_⟩:=h1;exact h
 obtain⟨q,c1,rfl,_⟩:=h1.slice;obtain⟨a2,c2,rfl,_⟩:=h2.slice;obtain⟨N,O⟩:=Ex L.length;have c:=Hd O;rw[<-O]at g f d⊢;clear h1 h2 O
 go_enter func31,ntmps31
 go_wp2
 go_loopw [4,5] (λn I wr=>∃j:Nat,j<=N/\I=Iv j/\Hq (Bw w wr)) (λ_ I _=>N-(intOf I).toNat)
 case atStart=>exact⟨0,X0 _,rfl,Hd (X7 _ _)⟩
 case round=>
  obtain⟨j,p,rfl,H⟩:=hrel
  by_cases g5:j<N
  ·have g0:=An wr 1;obtain⟨b1,f1,m,Z,X,e1,g1,k1,_⟩:=(f.o.below (H.o.trans (g0.mono H.o.size))).elem (i:=j) (by rw[<-c.o];exact g5);obtain⟨b2,f2,l,Y,U,e2,g2,k2,_⟩:=(d.o.below (H.o.trans (g0.mono H.o.size))).elem (i:=j) (by rw[<-c.o];exact g5);injection e1 with e1 _ _
   injection e2 with e2 _ _
   subst e1;subst e2
   obtain⟨G,b⟩:=Ex (L.getD j []);rw[<-b]at g1 k1 g2 k2;have g3:=Hd (Is G G rfl Z Y X U wr.drew k1 k2);have g4:=Hd (H.o.trans (g0.mono H.o.size));have g9:(j:Int)<(N:Int):=by omega
   rw[XQ rfl]at g3;clear k1 k2 b g0;go_upto_region 6 with fail;refine AJ (λW:Wd=>W.cell? (Aw b1 (f1+j))=some (.slice Z G.length X)/\W.cell? (Aw b2 (f2+j))=some (.slice Y G.length U)) false 10
    [(0,false),(1,false),(2,false),(3,false),(4,false),(5,false),(6,false),(7,false),(8,true),(9,false)] (by kernel_rfl) (by kernel_rfl) ⟨g1,g2⟩ ?_
   simp only[planned,AI]
   iterate 8
    refine A0 rfl ?_;apply Exists.intro;refine⟨λw' a=>?_,?_⟩
    . obtain⟨h1,h2⟩:=a;go_simp;rfl
    simp only[Ab]
   refine B7 (R:=λv w'=>v=.bool true/\Below wr.drew.heap.size wr.drew w') rfl (by go_simp) (g3.o.mono (λe w' k=>?_)) ?_
   . obtain⟨rfl,hb⟩:=k;exact⟨_,rfl,⟨(Cq hb g1),(Cq hb g2)⟩,rfl,hb⟩
   rintro v w2-⟨rfl,g6⟩;simp only[Ab];refine A0 rfl ?_;apply Exists.intro;refine⟨λw' a=>?_,?_⟩
   . go_simp;rfl
   simp only[Ab];refine B6 ?_;have g7:=Hd (g4.o.trans (g6.mono g4.o.size));clear g1 g2 g6 g3 g4;go_wp2;go_roundw
   case rel=>exact⟨j+1,by omega,by go_num,g7⟩
   case measure=>simp[intOf];omega
  ·obtain rfl:j=N:=by omega
   have g8:¬ (j:Int)<(j:Int):=by omega
   go_wp2;go_ret;exact⟨rfl,H.o⟩
def BlsIs.take {W:Wd}{a:Option Addr}{c:Nat}{L:List (List Bool)}(h:BlsIs W (.slice a L.length c) L){n:Nat}(O:n<=L.length):BlsIs W (.slice a n c) (L.take n):=by
 obtain⟨X,U,xs,e,h1,h2,h3,I⟩:=h;injection e with e1 _ e2
 subst e1;subst e2
 have hl:=h3.len;have e:(L.take n).length=n:=by simp;omega
 refine⟨a,c,xs.take n,by rw[e],h1,by omega,⟨by simp;omega,λi H i2=>?_⟩,λi H=>?_⟩
 . rw[aM,aM];exact h3.at_ i (by simp at H;omega) (by simp at i2;omega)
 . rw[aM];exact I i (by simp at H;omega)
def RowBl.cap {base:Nat}{v:Value}{gs:List (List Bool)}{W:Wd}(h:RowBl base v gs W):∃a c,v=.slice a gs.length c/\gs.length<=c/\(a=none/\c=0\/∃g,a=some (Av g)):=by
 obtain⟨xs,h1,h2,_⟩:=h;rcases h1.2 with ⟨rfl,h0⟩|⟨g,cap,H,rfl,_,_,h3,_⟩
 . exact⟨none,0,by rw[<-h2.len,h0],by rw[<-h2.len,h0];exact Xs _,.inl ⟨rfl,rfl⟩⟩
 . exact⟨_,cap,by rw[h2.len],by rw[<-h2.len];exact h3,.inr ⟨g,rfl⟩⟩
def Xm {α:Type}(L:List α)(H:L.length<=4096)(z:Int):∃k:Nat,Ee z 0 (L.length:Nat)=(k:Nat)/\k<=L.length/\L.take (BZ z)=L.take k:=by
 unfold Ee BZ
 by_cases h1:z<0
 . exact⟨0,by rw[Xx h1];rfl,X0 _,by congr 1;omega⟩
 ·by_cases h2:z>(L.length:Int)
  . refine⟨L.length,by rw[Xu h1,Xx h2],Xs _,?_⟩;rw[XP,XK (by omega)]
  . exact⟨z.toNat,by rw[Xu h1,Xu h2];omega,by omega,by congr 1;omega⟩
def listL (k:Nat):Nat->List Bool
 | 0=>[]
 | m+1=>decide (k/2^m%2=1)::listL k m
def listL_len (k:Nat):∀m,(listL k m).length=m
 | 0=>rfl
 | m+1=>by show(listL k m).length+1=m+1;rw[listL_len k m]
def listL_get (k:Nat):∀m i,i<m->(listL k m).getD i false=decide (k/2^(m-1-i)%2=1)
 | 0,i,h=>by omega
 | m+1,0,_=>rfl
 | m+1,i+1,h=>by
   have:=listL_get k m i (by omega);rw[show m+1-1-(i+1)=m-1-i by omega];exact this
def listL_add (k M:Nat):∀m,m<=M->listL (2^M+k) m=listL k m
 | 0,_=>rfl
 | m+1,h=>by
   have H:=listL_add k M m (by omega);obtain⟨d,rfl⟩:∃d,M=m+(d+1):=⟨M-m-1,by omega⟩;have e1:(2:Nat)^(m+(d+1))=2^m*(2*2^d):=by rw[Zr,XJ];ac_rfl
   show decide (_/2^m%2=1)::_=decide (k/2^m%2=1)::_
   rw[H,Nat.add_comm,e1,Nat.add_mul_div_left _ _ (Yg (by omega)),Nat.add_mul_mod_self_left]
def upTo (vs:List Nat)(F:BF)(k:Nat):List (List Bool):=((List.range k).map λi=>listL i vs.length).filter λl=>F (asg vs l)
def upTo_succ (vs:List Nat)(F:BF)(k:Nat):upTo vs F (k+1)=upTo vs F k++if F (asg vs (listL k vs.length))then [listL k vs.length]else []:=by
 unfold upTo;rw[Zn,XG,Yi];congr 1
 show List.filter _ [_]=_
 rw[Zg,List.filter_nil]
def upTo_len (vs:List Nat)(F:BF)(k:Nat):(upTo vs F k).length<=k:=by
 unfold upTo;refine Xz (Yj _ _) ?_;rw[XT,List.length_range];exact Xs _
def filter_cons (r:List Nat)(v:Nat)(F:BF)(b:Bool)(L:List (List Bool)):(L.map (b:: ·)).filter (λl=>F (asg (v::r) l))=(L.filter λl=>cofF F v b (asg r l)).map (b:: ·):=List.filter_map
def upTo_all:∀(vs:List Nat) (F:BF),upTo vs F (2^vs.length)=allL vs F
 | [],F=>by
   have H:allL [] F=if F (λ_=>false)then [[]]else []:=rfl
   have e0:asg [] []=λ_=>false:=by unfold asg;rfl
   show List.filter _ [[]]=_
   rw[H,Zg,e0,List.filter_nil]
 | v::r,F=>by
   have H:allL (v::r) F=(allL r (cofF F v false)).map (false:: ·)++(allL r (cofF F v true)).map (true:: ·):=rfl;have h2:(2:Nat)^(v::r).length=2^r.length+2^r.length:=by rw[XL,XJ];omega
   have I:0<2^r.length:=Yg (by omega);rw[H,<-upTo_all r (cofF F v false),<-upTo_all r (cofF F v true)];unfold upTo;rw[h2,List.range_add,XG,Yi,Y9];have e1:(List.range (2^r.length)).map (λi=>listL i (v::r).length)=((List.range (2^r.length)).map λi=>listL i r.length).map (false:: ·):=by
    rw[Y9];refine YQ λi hi=>?_
    show decide (i/2^r.length%2=1)::_=false::_
    rw[Y0 (YE.1 hi)];rfl
   have e2:(List.range (2^r.length)).map ((λi=>listL i (v::r).length) ∘ λx=>2^r.length+x)=((List.range (2^r.length)).map λi=>listL i r.length).map (true:: ·):=by
    rw[Y9];refine YQ λi hi=>?_
    show decide ((2^r.length+i)/2^r.length%2=1)::listL (2^r.length+i) r.length=true::listL i r.length
    rw[listL_add i r.length r.length (Xs _),Nat.add_comm (2^r.length) i,Nat.add_div_right _ I,Y0 (YE.1 hi)];rfl
   rw[e1,e2,filter_cons,filter_cons]
def wantB (zs:List Int)(l:List Bool)(v:Nat):Nat->Bool
 | 0=>false
 | k+1=>wantB zs l v k||(decide (at0 zs k=(v:Int))&&l.getD k false)
def wantB_iff {zs:List Int}{l:List Bool}{v:Nat}:∀{k:Nat},wantB zs l v k=true↔∃j,j<k/\at0 zs j=(v:Int)/\l.getD j false=true
 | 0=>⟨λh=>(by cases h),λ⟨j,h,_⟩=>(by omega)⟩
 | k+1=>by
   show(wantB zs l v k||_)=true↔_
   rw[Bool.or_eq_true,wantB_iff,XH,YM];constructor
   ·rintro(⟨j,h1,h2⟩|h)
    . exact⟨j,by omega,h2⟩
    . exact⟨k,by omega,h⟩
   ·rintro⟨j,h1,h2⟩;rcases(show j<k\/j=k by omega)with e|rfl
    . exact .inl ⟨j,e,h2⟩
    . exact .inr h2
def asg_iff:∀{vs:List Nat} {l:List Bool} {v:Nat},vs.Nodup->l.length=vs.length->(asg vs l v=true↔∃j,j<vs.length/\vs.getD j 0=v/\l.getD j false=true)
 | [],l,v,_,_=>by
   have e0:asg [] l=λ_=>false:=by unfold asg;rfl
   rw[e0];exact⟨λh=>(by cases h),λ⟨j,h,_⟩=>(by simp at h)⟩
 | u::r,[],v,_,h=>by simp at h
 | u::r,b::l,v,hn,h=>by
   rw[YO]at hn;have H:=asg_iff (vs:=r) (l:=l) (v:=v) hn.2 (by simpa using h)
   show(if v=u then b else asg r l v)=true↔_
   by_cases e:v=u
   ·subst e;rw[Xx rfl];constructor
    . intro hb;exact⟨0,by simp,rfl,hb⟩
    ·rintro⟨j,h1,h2,h3⟩;cases j with
     | zero=>exact h3
     | succ j=>
       exfalso;have O:j<r.length:=by simpa using h1
       refine hn.1 ?_;have I:r.getD j 0=v:=h2;rw[<-I];simp[List.getD,O]
   ·rw[Xu e,H];constructor
    . rintro⟨j,h1,h2,h3⟩;exact⟨j+1,by simp;omega,h2,h3⟩
    ·rintro⟨j,h1,h2,h3⟩;cases j with
     | zero=>exact absurd h2.symm e
     | succ j=>exact⟨j,by simp at h1;omega,h2,h3⟩
def want_asg {vs:List Nat}{l:List Bool}{v:Nat}(H:vs.Nodup)(hl:l.length=vs.length):wantB (intL vs) l v vs.length=asg vs l v:=by
 rw[Zw,wantB_iff,asg_iff H hl];constructor
 ·rintro⟨j,h1,h2,h3⟩;refine⟨j,h1,?_,h3⟩;have:at0 (intL vs) j=((vs.getD j 0:Nat):Int):=by unfold at0 intL;simp[List.getD,h1]
  rw[this]at h2;exact ZH h2
 ·rintro⟨j,h1,h2,h3⟩;refine⟨j,h1,?_,h3⟩;have:at0 (intL vs) j=((vs.getD j 0:Nat):Int):=by unfold at0 intL;simp[List.getD,h1]
  rw[this,h2]
def isB (zs:List Int)(l:List Bool)(i:Nat):Nat->Bool
 | 0=>true
 | v+1=>isB zs l i v&&(bitB i v == wantB zs l v zs.length)
def isB_iff {zs:List Int}{l:List Bool}{i:Nat}:∀{m:Nat},isB zs l i m=true↔∀v,v<m->bitB i v=wantB zs l v zs.length
 | 0=>⟨λ_ v h=>(by omega),λ_=>rfl⟩
 | m+1=>by
   show(isB zs l i m&&_)=true↔_
   rw[XH,isB_iff,ZO];constructor
   ·rintro⟨h1,h2⟩ v H;rcases(show v<m\/v=m by omega)with e|rfl
    . exact h1 v e
    . exact h2
   . exact λh=>⟨λv H=>h v (by omega),h m (by omega)⟩
def isB_val {n:Nat}{F:BF}(I:DepF n F)(O:n<=8){zs:List Int}{l:List Bool}{i:Nat}(h:isB zs l i 8=true):F (A4 (AE i n))=F (λv=>wantB zs l v zs.length):=by
 refine I _ _ λv H=>?_
 rw[FG,XQ H,Bool.true_and];exact isB_iff.1 h v (by omega)
def isB_ex {n:Nat}{zs:List Int}{l:List Bool}(H:∀z∈zs,0<=z/\z<(n:Int)):∃i,i<2^n/\isB zs l i 8=true:=by
 obtain⟨i,hi,hb⟩:=JE n λv=>wantB zs l v zs.length
 refine⟨i,hi,isB_iff.2 λv _=>?_⟩;rcases X9 v n with e|e
 . exact hb v e
 ·have h1:wantB zs l v zs.length=false:=by
   rw[Bool.eq_false_iff];intro I;obtain⟨j,O,h2,_⟩:=wantB_iff.1 I;have:=H (at0 zs j) (by unfold at0;simp[List.getD,O]);omega
  have h2:bitB i v=false:=by
   unfold bitB;rw[Y0 (X5 hi (X8 (by omega) e))];rfl
  rw[h1,h2]
def pow64 {n:Nat}(h:n<=16):2^n<=65536:=by
 have:=X8 (n:=2) (by omega) h;simpa using this
def rowI (k m i:Nat):List Bool:=(List.range m).map λj=>if i<=j then decide (k/2^(m-1-j)%2=1)else false
def rowI_len (k m i:Nat):(rowI k m i).length=m:=by simp[rowI]
def rowI_m (k m:Nat):rowI k m m=List.replicate m false:=by
 refine Ym (by simp[rowI]) λj h1 h2=>?_
 have:j<m:=by simpa [rowI]using h1
 simp[rowI];omega
def rowI_zero (k m:Nat):rowI k m 0=listL k m:=by
 refine Ym (by rw[rowI_len,listL_len]) λj h1 h2=>?_
 have H:j<m:=by simpa [rowI]using h1
 have:=listL_get k m j H;simp only[List.getD,Xy h2,Z7]at this;rw[this];simp[rowI]
def rowI_get {k m i j:Nat}(h:j<m):(rowI k m i).getD j false=if i<=j then decide (k/2^(m-1-j)%2=1)else false:=by
 simp[rowI,List.getD,h]
def rowI_set {k m i:Nat}(h:i<m):(rowI k m (i+1)).set i (decide (k/2^(m-1-i)%2=1))=rowI k m i:=by
 refine Ym (by rw[XE,rowI_len,rowI_len]) λj h1 h2=>?_
 have H:j<m:=by simpa [rowI]using h2
 rw[Z6]
 by_cases e:i=j
 . subst e;rw[Xx rfl];simp[rowI]
 ·rw[Xu e];simp only[rowI,ZS,List.getElem_range]
  by_cases c:i+1<=j
  . rw[Xx c,Xx (by omega)]
  . rw[Xu c,Xu (by omega)]
def list20_any (k m:Nat)(hk:k<=4611686018427387904)(y:m<=1000)(w:Wd):
 Cl 54 #[Iv (k:Nat),Iv (m:Nat)] w λx w'=>∃v,x=.returned v/\OwnB w' w.heap.size v (listL k m)/\Bw w w':=by
 obtain⟨K,Y⟩:=Ex k;have p:=Hd Y;have g9:k/2^(m-m)=K:=by simp[Y]
 have z:=Hd g9;clear g9
 go_enter func54,ntmps54
 go_wp2_with (at_make;refine C7 C6 rfl _ _ rfl w.heap.size w _ m rfl rfl rfl (by omega) (Xs _) (X7 _ _) ?_;intro g e g1 d l ge h gf;clear gf)
 have c:Hq (OwnB e w.heap.size (.slice (some (Av g)) m m) (rowI K m m)):=Hd (by
  rw[rowI_m];unfold OwnB;simpa [AA]using g1)
 have gc:=Hd d;clear g1 d l ge;go_wp2
 go_loopw [0,6] (λf U wr=>∃(i H:Nat),i<=m/\H<=4611686018427387904/\U=Iv ((i:Int)-1)/\f=Iv (H:Nat)/\Hq (H=K/2^(m-i))/\Hq (OwnB wr w.heap.size (.slice (some (Av g)) m m) (rowI K m i))/\Hq (Bw w wr)) (λ_ U _=>(intOf U+1).toNat)
 case atStart=>exact⟨m,k,Xs _,hk,rfl,rfl,Hd (by simp[Y]),c,gc⟩
 case round=>
  clear c gc;obtain⟨i,H,hi,A,rfl,rfl,g2,I,O⟩:=hrel
  by_cases h0:i=0
  . subst h0;have s:Hq (∃v,Ending.returned (.slice (some (Av g)) m m)=.returned v/\OwnB wr w.heap.size v (listL k m)/\Bw w wr):=Hd ⟨_,rfl,by have:=I.o;rw[rowI_zero,p.o]at this;exact this,O.o⟩;clear I O g2;go_wp2;go_ret;exact s.o
  ·obtain⟨j,rfl⟩:∃j,i=j+1:=⟨i-1,by omega⟩;have e1:(((j+1:Nat):Int)-1)=(j:Int):=by omega
   rw[e1];have X:j<m:=by omega
   have gk:(j:Int)<(m:Int):=by omega
   have t:wr.cell? (Aw g j)=some (.bool false):=by
    rw[I.o.cellB j (by rw[rowI_len];exact X),rowI_get X,Xu (by omega)]
   have u:=I.o.frozen j;have g0:Hq (∀b,b=decide (H%2=1)->OwnB (wr.setCell (Aw g j) (.bool b)) w.heap.size (.slice (some (Av g)) m m) (rowI K m j)):=Hd λb hb=>by
    have hs:=rowI_set (k:=K) X;have n:m-(j+1)=m-1-j:=by omega
    rw[<-n,<-g2.o,<-hb]at hs;rw[<-hs];exact I.o.setB j b
   have g3:Hq (∀b,Bw w (wr.setCell (Aw g j) (.bool b))):=Hd λb=>O.o.setCell h _
   have g6:Hq (H/2=K/2^(m-j)):=Hd (by
    rw[g2.o,show m-j=(m-(j+1))+1 by omega,XJ,Zb])
   have g4:H/2<=4611686018427387904:=by omega
   obtain⟨r,Z⟩:=Ex (H%2);obtain⟨q,a⟩:=Ex (H/2);have g8:r<2:=by omega
   have C:(H:Int).tmod 2=((r:Nat):Int):=by rw[YI (by omega)];omega
   have B:(H:Int).tdiv 2=((q:Nat):Int):=by rw[ZN (by omega)];omega
   rw[<-a]at g6 g4;rw[<-Z]at g0;clear I O g2 Z a;rcases(show r=0\/r=1 by omega)with rfl|rfl
   ·have g5:=Hd (g0.o false rfl);have g7:=Hd (g3.o false);clear g0 g3 g8;go_wp2;go_roundw
    case rel=>exact⟨j,q,by omega,g4,by first|rfl|go_num,by first|rfl|go_num,g6,g5,g7⟩
    case measure=>simp[intOf]
   ·have g5:=Hd (g0.o true rfl);have g7:=Hd (g3.o true);clear g0 g3 g8;go_wp2;go_roundw
    case rel=>exact⟨j,q,by omega,g4,by first|rfl|go_num,by first|rfl|go_num,g6,g5,g7⟩
    case measure=>simp[intOf]
def at20_any {n:Nat}{F:BF}(s:n<=8)(t:DepF n F){m:Option Addr}{cu:Nat}{w:Wd}(h1:AM w m (tabB n F)){zs:List Int}{a:Option Addr}{c:Nat}(X:Aj w a zs)(Y:∀z∈zs,0<=z/\z<(n:Int)){l:List Bool}{p:Option Addr}{cl:Nat}(hl:AM w p l)(g:l.length=zs.length):
 Cl 13 #[.slice m (2^n) cu,.slice a zs.length c,.slice p zs.length cl] w (Sm (.bool (F (λv=>wantB zs l v zs.length))) w):=by
 obtain⟨P,h⟩:=Ex ((Sm (.bool (F (λv=>wantB zs l v zs.length))) w):Ending->Wd->Prop)
 have g4:Hq (∀(i v:Nat) W,i<=65536->v<=16->Cl 52 #[Iv (i:Nat),Iv (v:Nat)] W (Sm (.bool (bitB i v)) W)):=Hd λi v W hi M=>J9 i v (by omega) (by omega) W
 have g2:Hq (∀k,k<2^n->∃b off,m=some (Aw b off)/\w.cell? (Aw b (off+k))=some (.bool (F (A4 (AE k n))))):=Hd λk hk=>by
  obtain⟨b,off,e,u⟩:=h1.cells k (by rw[BU];exact hk);rw[EW hk]at u;exact⟨b,off,e,u⟩
 have g3:Hq (∀k,k<zs.length->∃b off,a=some (Aw b off)/\w.cell? (Aw b (off+k))=some (Iv (at0 zs k))):=Hd X.cells;have g5:Hq (∀k,k<zs.length->∃b off,p=some (Aw b off)/\w.cell? (Aw b (off+k))=some (.bool (l.getD k false))):=Hd λk hk=>hl.cells k (by omega)
 have gk:=X.len;obtain⟨L,g7⟩:=Ex (2^n);have go:L<=65536:=by rw[g7];exact pow64 (by omega)
 have g0:Hq (∀i b,i<L->isB zs l i 8=true->b=F (A4 (AE i n))->P (.returned (.bool b)) w):=Hd λi b hi hb e=>by
  rw[h,e,isB_val t s hb];exact⟨rfl,rfl⟩
 have g6:Hq ((∀i,i<L->isB zs l i 8=false)->False):=Hd λge=>by
  obtain⟨i,hi,hb⟩:=isB_ex (l:=l) Y;rw[ge i (by rw[g7];exact hi)]at hb;cases hb
 rw[<-g7]at g2⊢;rw[<-h];clear h h1 X Y hl g g7 t s
 go_enter func13,ntmps13
 go_wp2
 go_loopw [7,8,9,10,11] (λd _ _ _ _ wr=>∃i:Nat,i<=L/\d=Iv (i:Int)/\wr=w/\Hq (∀j,j<i->isB zs l j 8=false)) (λd _ _ _ _ _=>L-(intOf d).toNat)
 case atStart=>exact⟨0,X0 _,rfl,rfl,Hd (λj N=>by omega)⟩
 case round=>
  obtain⟨i,hi,rfl,rfl,HQ⟩:=hrel
  by_cases B:i<L
  ·have S:(i:Int)<(L:Int):=by omega
   go_wp2_with fail;obtain⟨wo,gg⟩:∃W,W=wr:=⟨_,rfl⟩;subst gg
   go_loopw [8,9,10,11] (λG Z _ _ wr=>∃(v:Nat) (own:Bool),v<=8/\Z=Iv (v:Int)/\G=.bool own/\wr=wo/\Hq (own=isB zs l i v)) (λ_ Z _ _ _=>8-(intOf Z).toNat)
   case atStart=>exact⟨0,true,X0 _,rfl,rfl,rfl,Hd rfl⟩
   case round=>
    obtain⟨v,own,M,rfl,rfl,rfl,U⟩:=hrel
    by_cases gj:v<8
    ·have V:(v:Int)<8:=by omega
     go_wp2_with fail;obtain⟨wq,gf⟩:∃W,W=wr:=⟨_,rfl⟩;subst gf
     go_loopw [10,11] (λf O wr=>∃(k:Nat) (I:Bool),k<=zs.length/\O=Iv (k:Int)/\f=.bool I/\wr=wq/\Hq (I=wantB zs l v k)) (λ_ O _=>zs.length-(intOf O).toNat)
     case atStart=>exact⟨0,false,X0 _,rfl,rfl,rfl,Hd rfl⟩
     case round=>
      obtain⟨k,I,hk,rfl,rfl,rfl,g8⟩:=hrel
      by_cases g9:k<zs.length
      ·have T:(k:Int)<(zs.length:Int):=by omega
       obtain⟨b1,K,rfl,c1⟩:=g3.o k g9;obtain⟨b2,J,rfl,c2⟩:=g5.o k g9;have H:Hq (wantB zs l v (k+1)=(I||(decide (at0 zs k=(v:Int))&&l.getD k false))):=Hd (by rw[g8.o];rfl);obtain⟨z,X⟩:=Ex (at0 zs k);obtain⟨y,r⟩:=Ex (l.getD k false);rw[<-X]at c1 H;rw[<-r]at c2 H;clear X r g8 U HQ g0 g6 g4 g2 g3 g5;have g1:=Hd H.o.symm;clear H;cases I with
       | true=>
         go_wp2;go_roundw
         case rel=>exact⟨k+1,true,by omega,by go_num,by first|rfl|trivial,by first|rfl|trivial,Hd (by have:=g1.o;simpa using this)⟩
         case measure=>simp[intOf];omega
       | false=>
         by_cases C:z=(v:Int)
         ·subst C;go_wp2;go_roundw
          case rel=>exact⟨k+1,y,by omega,by go_num,by first|rfl|trivial,by first|rfl|trivial,Hd (by have:=g1.o;simpa using this)⟩
          case measure=>simp[intOf];omega
         ·go_wp2;go_roundw
          case rel=>exact⟨k+1,false,by omega,by go_num,by first|rfl|trivial,by first|rfl|trivial,Hd (by have:=g1.o;simpa [C]using this)⟩
          case measure=>simp[intOf];omega
      ·obtain rfl:k=zs.length:=by omega
       have gi:¬ (zs.length:Int)<(zs.length:Int):=by omega
       have E:=Hd (g4.o i v wr (by omega) (by omega));have H:Hq (isB zs l i (v+1)=(own&&(bitB i v == I))):=Hd (by rw[U.o,g8.o];rfl);obtain⟨R,A⟩:=Ex (bitB i v);rw[<-A]at E H;have g1:=Hd H.o.symm;clear A g8 U HQ g0 g6 g4 g2 g3 g5 H;cases own with
       | false=>
         go_wp2;go_roundw
         case rel=>exact⟨v+1,false,by omega,by go_num,by first|rfl|trivial,by first|rfl|trivial,Hd (by have:=g1.o;simpa using this)⟩
         case measure=>simp[intOf];omega
       | true=>
         go_wp2_with fail;refine E.o.mono ?_;rintro x w' ⟨rfl,rfl⟩;go_wp2;go_roundw
         case rel=>exact⟨v+1,R == I,by omega,by go_num,by first|rfl|trivial,by first|rfl|trivial,Hd (by have:=g1.o;simpa using this)⟩
         case measure=>simp[intOf];omega
    ·obtain rfl:v=8:=by omega
     obtain⟨b,off,rfl,D⟩:=g2.o i B;cases own with
     | true=>
       have q:=Hd (g0.o i _ B U.o.symm rfl);obtain⟨f0,gc⟩:=Ex (F (A4 (AE i n)));rw[<-gc]at D q;clear gc U HQ g0 g6 g4 g2 g3 g5;go_wp2_with fail
       first|exact q.o|exact X2 (YD rfl _ _ _) rfl q.o
     | false=>
       have Q:Hq (∀j,j<i+1->isB zs l j 8=false):=Hd λj N=>by
        rcases(show j<i\/j=i by omega)with e|rfl
        . exact HQ.o j e
        . exact U.o.symm
       clear U HQ g0 g6 g4 g2 g3 g5 D;go_wp2;go_roundw
       case rel=>exact⟨i+1,by omega,by go_num,by first|rfl|trivial,Q⟩
       case measure=>simp[intOf];omega
  ·obtain rfl:i=L:=by omega
   exact(g6.o HQ.o).elim
def nodup_upto {zs:List Int}(h:∀i,i<zs.length->∀k,k<i->at0 zs k≠at0 zs i):zs.Nodup:=
 Zd.2 λi j hi I H e=>h j I i H (by rw[A8 hi,A8 I];exact e)
def nodup_not {zs:List Int}{i k:Nat}(hi:i<zs.length)(hk:k<i)(h:at0 zs k=at0 zs i):¬ zs.Nodup:=λI=>by
 have H:k<zs.length:=by omega
 rw[A8 H,A8 hi]at h;exact Zd.1 I k i H hi hk h
def vars20_any {n:Nat}{F:BF}(hn:n<=16){A:Option Addr}{cu:Nat}{w:Wd}(h1:AM w A (tabB n F)){zs:List Int}{a:Option Addr}{c:Nat}(O:Aj w a zs):
 Cl 12 #[.slice A (2^n) cu,.slice a zs.length c,Iv (n:Nat)] w (Bl (Iv (chkE n F zs)) w):=by
 obtain⟨P,r⟩:=Ex ((Bl (Iv (chkE n F zs)) w):Ending->Wd->Prop)
 have gk:=Hd r;have X:Hq (∀v W,v<n->Bw w W->Cl 51 #[.slice A (2^n) cu,Iv (v:Nat)] W (Bl (.bool (A5 n F v)) W)):=Hd λv W S hb=>JM n F v hn S A cu W (h1.below hb)
 have U:=Hd O;have gD:=O.len;obtain⟨L,gj⟩:=Ex (2^n);rw[<-gj]at X⊢;have N:Hq (Bw w w):=Hd (X7 _ _);have D:Hq (∀k W,k<zs.length->¬ (0<=at0 zs k/\at0 zs k<(n:Int))->Bw w W->P (.returned (Iv 9)) W):=Hd λk W hk g hb=>by
  have e:=FS (n:=n) (zs:=zs) (z:=at0 zs k) (by rw[A8 hk];exact XM hk) g;rw[r];refine⟨?_,hb⟩;unfold chkE;rw[Xu (by rw[e];decide),e]
 have E:Hq ((∀k,k<zs.length->0<=at0 zs k/\at0 zs k<(n:Int))->∀i k W,i<zs.length->k<i->at0 zs k=at0 zs i->Bw w W->P (.returned (Iv 6)) W):=Hd λg i k W hi hk p hb=>by
  have g9:∀z∈zs,0<=z/\z<(n:Int):=λz O=>by
   obtain⟨j,l,rfl⟩:=Yn O;have:=g j l
   rwa [A8 l]at this
  have e:=Ec g9;rw[Xu (nodup_not hi hk p)]at e;rw[r];refine⟨?_,hb⟩;unfold chkE;rw[Xu (by rw[e];decide),e]
 have C:Hq ((∀k,k<zs.length->0<=at0 zs k/\at0 zs k<(n:Int))->(∀i,i<zs.length->∀k,k<i->at0 zs k≠at0 zs i)->chkE n F zs=if ∀v:Nat,v<n->A5 n F v=true->(v:Int)∈zs then 0 else 1):=Hd λg hd=>by
  have g9:∀z∈zs,0<=z/\z<(n:Int):=λz O=>by
   obtain⟨j,l,rfl⟩:=Yn O;have:=g j l
   rwa [A8 l]at this
  have e:=Ec g9;rw[Xx (nodup_upto hd)]at e;unfold chkE;rw[Xx e];unfold cntE;rw[Xx g9]
 rw[<-r];clear r h1 O gj
 go_enter func12,ntmps12
 go_wp2
 go_loopw [7] (λK wr=>∃i:Nat,i<=zs.length/\K=Iv (i:Int)/\wr=w/\Hq (∀k,k<i->0<=at0 zs k/\at0 zs k<(n:Int))) (λK _=>zs.length-(intOf K).toNat)
 case atStart=>exact⟨0,X0 _,rfl,rfl,Hd (λk hk=>by omega)⟩
 case round=>
  obtain⟨i,hi,rfl,rfl,Y⟩:=hrel
  by_cases g6:i<zs.length
  ·have gt:(i:Int)<(zs.length:Int):=by omega
   obtain⟨b,off,rfl,d0⟩:=U.o.cells i g6;have g5:Hq (¬ (0<=at0 zs i/\at0 zs i<(n:Int))->P (.returned (Iv 9)) wr):=Hd λg=>D.o i wr g6 g N.o
   have g2:Hq ((0<=at0 zs i/\at0 zs i<(n:Int))->∀k,k<i+1->0<=at0 zs k/\at0 zs k<(n:Int)):=Hd λh k hk=>by
    rcases(show k<i\/k=i by omega)with e|rfl
    . exact Y.o k e
    . exact h
   obtain⟨z,O⟩:=Ex (at0 zs i);rw[<-O]at d0 g5 g2;clear O Y
   by_cases h0:z<0
   ·have I:=Hd (g5.o (by omega));clear X U D E C g2 g5;go_wp2_with fail
    first|exact I.o|exact X2 (YD rfl _ _ _) rfl I.o
   by_cases h1:z>=(n:Int)
   ·have I:=Hd (g5.o (by omega));clear X U D E C g2 g5;go_wp2_with fail
    first|exact I.o|exact X2 (YD rfl _ _ _) rfl I.o
   have gv:=Hd (g2.o (by omega));clear g2 g5;go_wp2;go_roundw
   case rel=>exact⟨i+1,by omega,by go_num,by first|rfl|trivial,gv⟩
   case measure=>simp[intOf];omega
  ·obtain rfl:i=zs.length:=by omega
   have gC:¬ (zs.length:Int)<(zs.length:Int):=by omega
   have gc:=Hd (E.o Y.o);have t:=Hd (C.o Y.o);clear D E C Y;go_wp2_with fail;obtain⟨wo,gq⟩:∃W,W=wr:=⟨_,rfl⟩;subst gq
   go_loopw [8,9] (λJ _ wr=>∃i:Nat,i<=zs.length/\J=Iv (i:Int)/\Hq (Bw wo wr)/\Hq (∀j,j<i->∀k,k<j->at0 zs k≠at0 zs j)) (λJ _ _=>zs.length-(intOf J).toNat)
   case atStart=>exact⟨0,X0 _,rfl,N,Hd (λk hk=>by omega)⟩
   case round=>
    obtain⟨i,hi,rfl,H,Y⟩:=hrel
    by_cases g6:i<zs.length
    ·have gt:(i:Int)<(zs.length:Int):=by omega
     go_wp2
     go_loopw [9] (λG wx=>∃k:Nat,k<=i/\G=Iv (k:Int)/\Hq (Bw wo wx)/\Hq (∀q,q<k->at0 zs q≠at0 zs i)) (λG _=>i-(intOf G).toNat)
     case atStart=>exact⟨0,X0 _,rfl,H,Hd (λk hk=>by omega)⟩
     case round=>
      clear H;obtain⟨k,hk,rfl,H,HQ⟩:=hrel
      by_cases gn:k<i
      ·have gr:(k:Int)<(i:Int):=by omega
       obtain⟨b1,f,e1,c1⟩:=(U.o.below H.o).cells k (by omega);obtain⟨b2,of2,e2,c2⟩:=(U.o.below H.o).cells i g6;subst e1;injection e2 with e2
       injection e2 with e2 e3 _
       subst e2;subst e3
       have gF:k<zs.length:=by omega
       have T:=Hd (H.o.trans ((An _ 1).mono H.o.size));have g1:Hq (at0 zs k≠at0 zs i->∀q,q<k+1->at0 zs q≠at0 zs i):=Hd λe q m=>by
        rcases(show q<k\/q=k by omega)with h|rfl
        . exact HQ.o q h
        . exact e
       have s:Hq (at0 zs k=at0 zs i->P (.returned (Iv 6)) (World.drewN _ 1)):=Hd λe=>gc.o i k _ g6 gn e T.o
       obtain⟨y1,gd⟩:∃y,y=at0 zs k:=⟨_,rfl⟩;obtain⟨y2,g8⟩:∃y,y=at0 zs i:=⟨_,rfl⟩;rw[<-gd,<-g8]at g1 s;rw[<-gd]at c1;rw[<-g8]at c2;have gu:=Hd g8;clear gd g8 HQ gc t U X;go_upto_region 12 with fail;refine AJ (λW:Wd=>W.cell? (Aw b1 (f+k))=some (Iv y1)/\W.cell? (Aw b1 (f+i))=some (Iv y2)) false 9
        [(0,false),(1,false),(2,false),(3,false),(4,false),(5,false),(6,false),(7,false),(8,false)] (by kernel_rfl) (by kernel_rfl) ⟨c1,c2⟩ ?_
       simp only[planned,AI]
       iterate 9
        refine A0 rfl ?_;apply Exists.intro;refine⟨λw' hw=>?_,?_⟩
        . obtain⟨h1,h2⟩:=hw;go_simp;rfl
        simp only[Ab]
       refine B6 ?_;clear c1 c2
       by_cases p:y1=y2
       ·have I:=Hd (s.o p);subst p;clear g1 s;go_wp2_with fail
        first|exact I.o|exact X2 (YD rfl _ _ _) rfl I.o
       ·have gw:=Hd (g1.o p);clear g1 s;go_wp2;go_roundw
        case rel=>exact⟨k+1,by omega,by go_num,T,Hd λq m=>by rw[<-gu.o];exact gw.o q m⟩
        case measure=>simp[intOf];omega
      ·obtain rfl:k=i:=by omega
       have gB:¬ (k:Int)<(k:Int):=by omega
       have g2:Hq (∀j,j<k+1->∀q,q<j->at0 zs q≠at0 zs j):=Hd λj l q m=>by
        rcases(show j<k\/j=k by omega)with e|rfl
        . exact Y.o j e q m
        . exact HQ.o q m
       clear HQ Y gc t U X;go_wp2;go_roundw
       case rel=>exact⟨k+1,by omega,by go_num,H,g2⟩
       case measure=>simp[intOf];omega
    ·obtain rfl:i=zs.length:=by omega
     have g3:=Hd (t.o Y.o);clear gc t Y N;have gA:¬ (zs.length:Int)<(zs.length:Int):=by omega
     go_wp2
     go_loopw [10,11,12] (λd _ _ wr=>∃v:Nat,v<=n/\d=Iv (v:Int)/\Hq (Bw wo wr)/\Hq (∀u:Nat,u<v->A5 n F u=true->(u:Int)∈zs)) (λd _ _ _=>n-(intOf d).toNat)
     case atStart=>exact⟨0,X0 _,rfl,H,Hd (λk hk=>by omega)⟩
     case round=>
      clear H;obtain⟨v,S,rfl,H,HQ⟩:=hrel
      by_cases gf:v<n
      ·have gE:(v:Int)<(n:Int):=by omega
       go_wp2_with fail;obtain⟨wq,gp⟩:∃W,W=wr:=⟨_,rfl⟩;subst gp
       go_loopw [11,12] (λM Z wr=>∃(k:Nat) (is:Bool),k<=zs.length/\Z=Iv (k:Int)/\M=.bool is/\wr=wq/\Hq (is=decide ((v:Int)∈zs.take k))) (λ_ Z _=>zs.length-(intOf Z).toNat)
       case atStart=>exact⟨0,false,X0 _,rfl,rfl,rfl,Hd (by simp)⟩
       case round=>
        obtain⟨k,is,hk,rfl,rfl,rfl,B⟩:=hrel
        by_cases ge:k<zs.length
        ·have gr:(k:Int)<(zs.length:Int):=by omega
         obtain⟨b1,f,rfl,c1⟩:=(U.o.below H.o).cells k ge
         have g0:Hq ((is||decide (at0 zs k=(v:Int)))=decide ((v:Int)∈zs.take (k+1))):=Hd (by
          rw[Zk,getElem?_at0 ge,B.o];simp only[Option.toList,XD,XB,Bool.decide_or];congr 1;exact ZT.2 eq_comm)
         obtain⟨z,O⟩:=Ex (at0 zs k);rw[<-O]at c1 g0;clear O B HQ g3 X U;cases is with
         | true=>
           go_wp2;go_roundw
           case rel=>exact⟨k+1,true,by omega,by go_num,by first|rfl|trivial,by first|rfl|trivial,Hd (by have:=g0.o;simpa using this)⟩
           case measure=>simp[intOf];omega
         | false=>
           go_wp2;go_roundw
           case rel=>exact⟨k+1,decide (z=(v:Int)),by omega,by go_num,by first|rfl|trivial,by first|rfl|trivial,Hd (by have:=g0.o;simpa using this)⟩
           case measure=>simp[intOf];omega
        ·obtain rfl:k=zs.length:=by omega
         have gy:¬ (zs.length:Int)<(zs.length:Int):=by omega
         have R:=B.o;rw[XP]at R;have g0:=Hd R;clear B R;cases is with
         | true=>
           have g1:Hq (∀u:Nat,u<v+1->A5 n F u=true->(u:Int)∈zs):=Hd λu hu hh=>by
            rcases(show u<v\/u=v by omega)with e|rfl
            . exact HQ.o u e hh
            . exact YG g0.o.symm
           clear g0 HQ g3 X U;go_wp2;go_roundw
           case rel=>exact⟨v+1,by omega,by go_num,H,g1⟩
           case measure=>simp[intOf];omega
         | false=>
           have g7:(v:Int)∉zs:=of_decide_eq_false g0.o.symm;have g4:=Hd (X.o v wr gf H.o);cases hh:A5 n F v with
           | true=>
             rw[hh]at g4;have I:Hq (∀W,Bw wo W->P (.returned (Iv 1)) W):=Hd λW hb=>by
              rw[gk.o];have e:=g3.o;rw[Xu (λgo=>g7 (go v gf hh))]at e;rw[e];exact⟨rfl,hb⟩
             clear hh g0 HQ g3 X U g7;go_wp2_with fail;refine g4.o.mono ?_;rintro x w' ⟨rfl,hb⟩;have V:=Hd (I.o w' (H.o.trans (hb.mono H.o.size)));clear hb g4 I H;go_wp2_with fail
             first|exact V.o|exact X2 (YD rfl _ _ _) rfl V.o
           | false=>
             rw[hh]at g4;have g1:Hq (∀u:Nat,u<v+1->A5 n F u=true->(u:Int)∈zs):=Hd λu hu Q=>by
              rcases(show u<v\/u=v by omega)with e|rfl
              . exact HQ.o u e Q
              . rw[hh]at Q;cases Q
             clear hh g0 HQ g3 X U g7;go_wp2_with fail;refine g4.o.mono ?_;rintro x w' ⟨rfl,hb⟩;have gx:=Hd (H.o.trans (hb.mono H.o.size));clear hb g4 H;go_wp2;go_roundw
             case rel=>exact⟨v+1,by omega,by go_num,gx,g1⟩
             case measure=>simp[intOf];omega
      ·obtain rfl:v=n:=by omega
       have gz:¬ (v:Int)<(v:Int):=by omega
       have I:Hq (P (.returned (Iv 0)) wr):=Hd (by
        rw[gk.o];have e:=g3.o;rw[Xx HQ.o]at e;rw[e];exact⟨rfl,H.o⟩)
       clear HQ g3 X U;go_wp2_with fail
       first|exact I.o|exact X2 (YD rfl _ _ _) rfl I.o
def all20_any {n:Nat}{F:BF}(H:n<=8)(M:DepF n F){G:Option Addr}{cu:Nat}{w:Wd}(h1:AM w G (tabB n F)){vs:List Nat}{a:Option Addr}{c:Nat}(b:Aj w a (intL vs))(Y:vs.Nodup)(O:∀v∈vs,v<n)(X:vs.length<=8):
 Cl 15 #[.slice G (2^n) cu,.slice a vs.length c] w λx w'=>∃v,x=.returned v/\RowBl w.heap.size v (allL vs F) w'/\Bw w w':=by
 have C:(intL vs).length=vs.length:=by unfold intL;simp
 have V:∀z∈intL vs,0<=z/\z<(n:Int):=λz b=>by
  obtain⟨v,hv,rfl⟩:=X6.1 b;have:=O v hv;omega
 have g6:Hq (∀W (l:List Bool) I cl,Bw w W->AM W I l->l.length=vs.length->Cl 13 #[.slice G (2^n) cu,.slice a vs.length c,.slice I vs.length cl] W (Sm (.bool (F (asg vs l))) W)):=Hd λW l I cl hb hl gp=>by
  have:=at20_any H M (cu:=cu) (h1.below hb) (c:=c) (b.below hb) V (cl:=cl) hl (by rw[C];exact gp);rw[C]at this;refine this.mono λx w' hx=>?_
  rw[hx.1];refine⟨?_,hx.2⟩;congr 3;funext v;exact want_asg Y gp
 have g8:Hq (∀(k:Nat) W,k<=256->Cl 54 #[Iv (k:Nat),Iv (vs.length:Nat)] W λx w'=>∃v,x=.returned v/\OwnB w' W.heap.size v (listL k vs.length)/\Bw W w'):=Hd λk W hk=>list20_any k vs.length (by omega) (by omega) W
 have g0:Hq (∀v W,RowBl w.heap.size v (upTo vs F (2^vs.length)) W->RowBl w.heap.size v (allL vs F) W):=Hd λv W h=>by rw[upTo_all]at h;exact h
 have g5:Hq (∀k,upTo vs F (k+1)=upTo vs F k++if F (asg vs (listL k vs.length))then [listL k vs.length]else []):=Hd (upTo_succ vs F);have E:2^vs.length<=256:=Xz (X8 (by omega) X) (by decide);obtain⟨m,t⟩:=Ex vs.length;have HM:=Hd t;rw[<-t]at g6 g8 g0 g5 X E⊢;obtain⟨L,gt⟩:=Ex (2^n);rw[<-gt]at g6⊢;have gD:Hq (∀i,i<=m->2^i<=256):=Hd λi hi=>Xz (X8 (by omega) hi) E
 obtain⟨w1,f⟩:=Ex (w.alloc (.cells #[] 28));have S:Hq (_=w1):=Hd f.symm;have g9:=D1 28 w w.heap.size (Xs _);rw[<-f]at g9;have T:Bw w w1:=by rw[f];exact Ag _ _
 have A:Hq (RowBl w.heap.size (.slice (some (Av w.heap.size)) 0 0) (upTo vs F 0) w1):=Hd ⟨[],g9,⟨rfl,λi h=>by simp at h⟩,λi h=>by simp at h⟩;have N:=Hd T;clear g9 T f t E h1 b Y O M H C V gt
 go_enter func15,ntmps15
 go_upto_region 2 with fail;rw[S.o];clear S;go_wp2
 go_loopw [6,7] (λs6 r wr=>∃i p:Nat,i<=m/\r=Iv (i:Int)/\s6=Iv (p:Int)/\p<=256/\wr=w1/\Hq (p=2^i)) (λ_ r _=>m-(intOf r).toNat)
 case atStart=>exact⟨0,1,X0 _,rfl,rfl,by omega,rfl,Hd rfl⟩
 case round=>
  obtain⟨i,p,hi,rfl,rfl,hp,rfl,HP⟩:=hrel
  by_cases O:i<m
  ·have gN:(i:Int)<(m:Int):=by omega
   have gA:2*p<=256:=by rw[HP.o];have:=gD.o (i+1) (by omega);rw[XJ]at this;omega
   have gE:Hq (2*p=2^(i+1)):=Hd (by rw[HP.o,XJ];omega);clear g6 g8 g0 g5 A HP;go_wp2;go_roundw
   case rel=>exact⟨i+1,2*p,by omega,by go_num,by go_num,gA,by first|rfl|trivial,gE⟩
   case measure=>simp[intOf];omega
  ·obtain rfl:i=m:=by omega
   have gI:¬ (i:Int)<(i:Int):=by omega
   go_wp2
   go_loopw [5,8,9] (λs5 j _ wx=>∃k:Nat,k<=p/\j=Iv (k:Int)/\Hq (RowBl w.heap.size s5 (upTo vs F k) wx)/\Hq (Bw w wx)) (λ_ j _ _=>p-(intOf j).toNat)
   case atStart=>exact⟨0,X0 _,rfl,A,N⟩
   case round=>
    clear A N;obtain⟨k,hk,rfl,U,J⟩:=hrel
    by_cases gJ:k<p
    ·have gM:(k:Int)<(p:Int):=by omega
     obtain⟨wo,gy⟩:∃W,W=wr:=⟨_,rfl⟩;subst gy;have R:=Hd (g8.o k wo (by omega))
     have gF:Hq (∀q,u5.ownBlock=some q->q<wo.heap.size):=Hd (by
      obtain⟨Z,hy,_⟩:=U.o;exact λq s=>(hy.lt q s).2)
     go_wp2_with fail;refine R.o.mono ?_;rintro x w2 ⟨u,rfl,hu,gc⟩;have gz:=hu.boolsIs (by rw[listL_len];omega);obtain⟨I,cl,rfl,hl,go⟩:=gz;rw[listL_len]at hu;have ge:=Hd (J.o.trans (gc.mono J.o.size));have y:=Hd (g6.o w2 (listL k i) I cl ge.o hl (by rw[listL_len]));have HU:=Hd hu;have Q:Hq (Ay w2 (.slice I i cl) (listL k i)):=Hd ⟨I,cl,by rw[listL_len],hl,go⟩;have d:=Hd (U.o.below gc);have gK:=Hd gc.size;rw[listL_len];clear hu hl go gc R g8 g6 U;go_wp2_with fail;refine y.o.mono ?_;rintro x w' ⟨rfl,rfl⟩;have H:=g5.o k;cases hb:F (asg vs (listL k i))with
     | false=>
       rw[hb]at H;have g:Hq (upTo vs F (k+1)=upTo vs F k):=Hd (by rw[H];simp);have gk:Hq (RowBl w.heap.size u5 (upTo vs F (k+1)) w2):=Hd (by rw[g.o];exact d.o);clear hb H g y d HU Q g0 g5;go_wp2;go_roundw
       case rel=>exact⟨k+1,by omega,by go_num,gk,ge⟩
       case measure=>simp[intOf];omega
     | true=>
       rw[hb,Xx rfl]at H;have g:=Hd H;obtain⟨Z,g7,gf,gn⟩:=d.o;have gL:Z.length<=1000:=by have:=gf.len;have:=upTo_len vs F k;omega
       have B:=Hd g7;have gC:=Hd gf;have gB:=Hd gn;have gO:=ge.o.size;clear hb H y g7 gf gn d g5 g0;go_wp2_with (at_builtin;refine Dh elemBools w2 rfl _ _ rfl w.heap.size _ Z (.slice I i cl) rfl rfl rfl rfl rfl B.o (by omega) (by omega) ?_;intro v5 K gb g1 g2 g3 g4 D)
       have gk:Hq (RowBl w.heap.size v5 (upTo vs F (k+1)) K):=Hd (by
        rw[g.o]
        exact RowBl.app B.o gC.o gB.o Q.o (λ_ q s e=>by
         have h1:=gF.o q e;have h2:=(HU.o.lt _ s).1;omega) gb g4 D)
       have gG:Hq (Bw w K):=Hd (FF ge.o B.o g1 g2 g3 g4 D (by omega));clear gb g1 g2 g3 g4 D;go_roundw
       case rel=>exact⟨k+1,by omega,by go_num,gk,gG⟩
       case measure=>simp[intOf];omega
    ·obtain rfl:k=p:=by omega
     have gH:¬ (k:Int)<(k:Int):=by omega
     have HF:=Hd (g0.o _ _ (by have:=U.o;rw[HP.o]at this;exact this));obtain⟨Z,g7,_⟩:=U.o;obtain⟨a5,c5,e5,_⟩:=g7.slice;subst e5;clear U g7 g0 g5 g6 g8;go_wp2;go_ret;exact⟨_,rfl,HF.o,J.o⟩
def room20 {n c:Nat}(H:c<=100):c*2^n+(2^n+(2^n-1)*2^n)<=AQ n:=by
 have h1:1<=2^n:=ZE;have h2:2^(2*n)=2^n*2^n:=by rw[Nat.two_mul,Zr]
 unfold AQ;rw[h2]
 generalize 2^n=X at h1
 obtain⟨Y,rfl⟩:∃Y,X=Y+1:=⟨X-1,by omega⟩;have h3:c*(Y+1)<=100*(Y+1):=XS _ H;simp only[Nat.add_sub_cancel,ZB,Y8]at h3⊢;omega
end Go.Proofs.YtnphndlbfeagbaaGreat

namespace Go.Proofs.YtnphndlbfeagbaaGreat
open Go.Proofs.Tryz
open Go.RowKit Go.Deep Go.ChangeShapes Go.WideShapes
def open_bools {H:Type}{enc:TypeId×Value->H}{w:Wd}{base:Nat}{spare:Nat->Bool}{held:Bool}{fuel:Nat}{cs:List Value}{x:DataW H×List MemPlace}
 (h:DataW.trod enc prog w base spare held fuel 28 cs=some x):∃(a:Option Addr) (bs:List Bool) (c:Nat),cs=[.slice a bs.length c]/\bs.length<=9223372036854775807/\(bs.length<=1000000->Ay w (.slice a bs.length c) bs):=by
 have c1:prog.cellsOf 4=1:=by kernel_rfl
 rcases FZ underlying28 h with e2|⟨a,len,cap,n,e2,hl,U,g5,hx⟩
 . exact⟨none,[],0,e2,by simp,λ_=>⟨none,0,rfl,⟨by simp,λk hk=>by simp at hk⟩,λ_=>rfl⟩⟩
 ·have each:∀i,i<len->∃b:Bool,w.cell? (a.add i)=some (.bool b):=by
   intro i hi;obtain⟨cs',y,h1,h2⟩:=hx i hi;rw[c1,Nat.mul_one]at h1;obtain⟨_,g4,g0⟩:=aQ h1;obtain⟨b,rfl,_⟩:=DataW.trod_bool underlying4 h2;have f0:=g0 0 (by omega);rw[add0]at f0;exact⟨b,by simpa using f0⟩
  obtain⟨q,I⟩:=choose_lt each;refine⟨some a,(List.range len).map q,cap,by rw[e2];simp,by simp;unfold maxLen at U;omega,λg3=>⟨some a,cap,rfl,⟨g3,λk hk=>?_⟩,λe=>by cases e⟩⟩;have g2:k<len:=by simpa using hk
  have g1:a.spot=none:=by
   have O:=I 0 (by omega);have:=FY O;simpa [Addr.add]using this
  obtain⟨b,off,spot⟩:=a;dsimp only at g1;subst g1;refine⟨b,off,rfl,?_⟩;have:=I k g2;rw[FX]at this;rw[this];simp[List.getD,g2]
def open_case {H:Type}{enc:TypeId×Value->H}{w:Wd}{base:Nat}{held:Bool}{fuel:Nat}{cs:List Value}{x:DataW H×List MemPlace}
 (h:DataW.trod enc prog w base (λ_=>true) held fuel 30 cs=some x):∃(p k:Int) (av:Option Addr) (lv cv:Nat) (zs:List Int) (I:Option Addr) (bs:List Bool) (cl:Nat),
  cs=[.int .u8 p,.slice av lv cv,.int .u16 k,.slice I bs.length cl]/\(0<=p/\p<256)/\(0<=k/\k<65536)/\SliceIs w (.slice av lv cv) zs/\lv<=cv/\bs.length<=9223372036854775807/\(bs.length<=1000000->Ay w (.slice I bs.length cl) bs):=by
 obtain⟨xs,k,hk,g9,g6,g7,U⟩:=aP underlying30 h;have c1:prog.cellsOf 5=1:=by kernel_rfl
 have c2:prog.cellsOf 22=1:=by kernel_rfl
 have f:prog.cellsOf 27=1:=by kernel_rfl
 have e:prog.cellsOf 28=1:=by kernel_rfl
 have d:prog.cellsOf 30=4:=by kernel_rfl
 rw[d]at g6
 match xs,g7,cs,g6 with
 | [y0,y1,y2,y3],_,[v0,v1,v2,v3],_=>
   have g0:=U 0 _ rfl;have g1:=U 1 _ rfl;have g2:=U 2 _ rfl;have g3:=U 3 _ rfl;simp[c1,c2,f,e]at g0 g1 g2 g3;obtain⟨n0,e0,_,w0⟩:=Zj underlying5 g0;obtain⟨O,e2,_,w2⟩:=Zj underlying27 g2;simp only[Yw,Z9]at e0 e2;subst e0 e2;obtain⟨I,bs,cl,Z,b1,b2⟩:=open_bools g3;simp only[Yw,Z9]at Z;subst Z;have Y:0<=n0/\n0<256:=by
    simp only[Lit.wf,IntKind.min,IntKind.max,IntKind.signed,IntKind.bits,XH,Yk]at w0;simp at w0;omega
   have X:0<=O/\O<65536:=by
    simp only[Lit.wf,IntKind.min,IntKind.max,IntKind.signed,IntKind.bits,XH,Yk]at w2;simp at w2;omega
   rcases open_ints underlying22 underlying3 (by kernel_rfl) g1 with ⟨g4,_⟩|⟨y,l,c,zs,g4,_,hl,b,a,_,g5,g8⟩
   . simp only[Yw,Z9]at g4;subst g4;exact⟨n0,O,none,0,0,_,I,bs,cl,rfl,Y,X,sliceIs_of_row (.inl ⟨rfl,rfl,rfl,rfl⟩),Xs _,b1,b2⟩
   . simp only[Yw,Z9]at g4;subst g4;exact⟨n0,O,some y,l,c,_,I,bs,cl,rfl,Y,X,sliceIs_of_row (.inr ⟨_,rfl,hl,b,by simpa using a,g5,g8⟩),hl,b1,b2⟩
end Go.Proofs.YtnphndlbfeagbaaGreat
