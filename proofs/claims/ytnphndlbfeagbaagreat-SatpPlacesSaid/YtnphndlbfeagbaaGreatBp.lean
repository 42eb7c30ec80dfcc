/- More contracts of the program's functions. -/
import Derived.Test.YtnphndlbfeagbaaGreatB9
import Derived.ChangeSlices
set_option linter.unusedSimpArgs false
set_option linter.unusedVariables false
set_option linter.unusedSectionVars false
set_option linter.unnecessarySimpa false
set_option maxRecDepth 100000
set_option maxHeartbeats 8000000
namespace Go.Proofs.YtnphndlbfeagbaaGreat
open Go.Proofs.Tryz
open Go.RowKit
section
variable {K:Law}{n:Nat}{Od:List Nat->Prop}{room:Nat}{w0:Wd}{mb:Nat}{fs:List (Int×BF)}{nx:Int}{Wt:List Ev->Int->Prop}{hl hx hs:List (Int×BF)}{W W' w:Wd}{o o':Own}{m m':ManD}{V V':Nat->BF}{vl vx v' v:Value}{p:Int×BF}
theorem LawF.tab {F:BF}(h:LawF W o v (tabB n F)):∃a c,v=.slice a (2^n) c/\AM W a (tabB n F):=by
 obtain⟨a,c,e,h1,_⟩:=h.is;rw[BU]at e;exact⟨a,c,e,h1⟩
end
section
variable {K:Law}{n room:Nat}{w0 w W w':Wd}{mb:Nat}{fs fs':List (Int×BF)}{nx nx':Int}{o:Own}{m:ManD}{V:Nat->BF}{ws0:List Ev}{rs:List (Value×BF)}{f:Nat}{args:Array Value}
theorem StF.dep (h:StF K n room w0 mb fs nx ws0 rs w){k:Int}{F:BF}(hk:(k,F)∈fs):DepF n F:=by
 obtain⟨o,m,V,_,h2,_⟩:=h;exact h2.dep hk
end
theorem elemBools:Dg 28 34 (.slice none 0 0) 24:=⟨underlying34,by kernel_rfl,rfl,by omega⟩
structure BlsAt (W:Wd)(xs:List Value)(gs:List (List Bool)):Prop where
 len:xs.length=gs.length
 at_:∀i (h:i<xs.length) (h2:i<gs.length),Ay W xs[i] gs[i]
def BlsIs (W:Wd)(v:Value)(gs:List (List Bool)):Prop:=∃a c xs,v=.slice a gs.length c/\(a=none->c=0)/\gs.length<=9223372036854775807/\BlsAt W xs gs/\∀i (h:i<xs.length),∃b off,a=some (Aw b off)/\W.cell? (Aw b (off+i))=some xs[i]
section
variable {W W':Wd}{v:Value}{xs:List Value}{gs:List (List Bool)}
theorem BlsAt.below (h:BlsAt W xs gs)(hb:Bw W W'):BlsAt W' xs gs:=⟨h.len,λi h1 h2=>(h.at_ i h1 h2).below hb⟩
theorem BlsIs.elem (h:BlsIs W v gs){i:Nat}(hi:i<gs.length):∃b off c a2 c2,v=.slice (some (Aw b off)) gs.length c/\W.cell? (Aw b (off+i))=some (.slice a2 (gs.getD i []).length c2)/\AM W a2 (gs.getD i [])/\(a2=none->c2=0):=by
 obtain⟨a,c,xs,e,U,hl,hs,H⟩:=h;have hx:i<xs.length:=by rw[hs.len];exact hi
 obtain⟨b,off,O,h1⟩:=H i hx;obtain⟨a2,c2,e2,h2,h3⟩:=hs.at_ i hx hi;subst O;rw[e2]at h1;have I:gs.getD i []=gs[i]:=by simp[List.getD,hi]
 rw[I];exact⟨b,off,c,a2,c2,e,h1,h2,h3⟩
theorem BlsAt.snoc (h:BlsAt W xs gs){x:Value}{g:List Bool}(hx:Ay W x g):BlsAt W (xs++[x]) (gs++[g]):=by
 have hl:=h.len;refine⟨by simp[hl],λi h1 h2=>?_⟩;rcases X9 i xs.length with h3|h3
 . rw[XU h3,XU (by omega)];exact h.at_ i h3 (by omega)
 ·have e:i=xs.length:=by simp at h1;omega
  subst e;rw[XV (Xs _),XV (by omega)];simpa using hx
theorem BlsIs.of_own {base:Nat}(h:OwnC 28 W base v xs)(hs:BlsAt W xs gs)(hl:gs.length<=9223372036854775807):BlsIs W v gs:=by
 obtain⟨a,c,e,H⟩:=h.slice;refine⟨a,c,xs,by rw[e,hs.len],H,hl,hs,λi hi=>?_⟩;obtain⟨g,cap,e2,_,_⟩:=h.shape (by omega);rw[e]at e2;injection e2 with e2 _ _
 subst e2;rw[e]at h;refine⟨g,0,rfl,?_⟩;rw[XO,h.cell i hi];simp[hi]
end
theorem Ay.empty {W W':Wd}{v:Value}(h:Ay W v []):Ay W' v []:=by
 obtain⟨a,c,e,⟨h1,h2⟩,h3⟩:=h;exact⟨a,c,e,⟨h1,λk hk=>by simp at hk⟩,h3⟩
def RowBl (base:Nat)(v:Value)(gs:List (List Bool))(W:Wd):Prop:=∃xs,OwnC 28 W base v xs/\BlsAt W xs gs/\∀i (h:i<xs.length) (h2:i<gs.length),gs[i]≠[]->∀k,xs[i].ownBlock=some k->k<W.heap.size/\v.ownBlock≠some k
section
variable {base:Nat}{v v':Value}{gs:List (List Bool)}{W W1 w':Wd}
theorem RowBl.is (h:RowBl base v gs W)(hl:gs.length<=9223372036854775807):BlsIs W v gs:=by
 obtain⟨xs,h1,h2,_⟩:=h;exact BlsIs.of_own h1 h2 hl
theorem RowBl.below (h:RowBl base v gs W)(hb:Bw W W1):RowBl base v gs W1:=by
 obtain⟨xs,h1,h2,h3⟩:=h;exact⟨xs,h1.below hb,h2.below hb,λi hi g1 g0 k hk=>⟨X5 (h3 i hi g1 g0 k hk).1 hb.size,(h3 i hi g1 g0 k hk).2⟩⟩
theorem blsAt_keep {xs:List Value}(h2:BlsAt W xs gs)(hk:∀i (h:i<xs.length) (h2:i<gs.length),gs[i]≠[]->∀k,xs[i].ownBlock=some k->w'.heap[k]?=W.heap[k]?):BlsAt w' xs gs:=
 ⟨h2.len,λi hi H=>by
  by_cases I:gs[i]=[]
  . have:=h2.at_ i hi H;rw[I]at this⊢;exact this.empty
  . exact(h2.at_ i hi H).same λk e=>hk i hi H I k e⟩
theorem RowBl.app {xs:List Value}(h1:OwnC 28 W base v xs)(h2:BlsAt W xs gs)(h3:∀i (h:i<xs.length) (h2:i<gs.length),gs[i]≠[]->∀k,xs[i].ownBlock=some k->k<W.heap.size/\v.ownBlock≠some k){y:Value}{g:List Bool}(O:Ay W y g)(H:g≠[]->∀k,y.ownBlock=some k->v.ownBlock≠some k)
 (g1:OwnC 28 w' base v' (xs++[y])) (hs:W.heap.size<=w'.heap.size) (hk:BG v v' W w'):RowBl base v' (gs++[g]) w':=by
 have g6:BlsAt W (xs++[y]) (gs++[g]):=h2.snoc O;have hl:=h2.len;have key:∀i (h:i<(xs++[y]).length) (h2:i<(gs++[g]).length),(gs++[g])[i]≠[]->∀k,(xs++[y])[i].ownBlock=some k->k<W.heap.size/\v.ownBlock≠some k:=by
  intro i hi g2 g0 k g3;rcases X9 i xs.length with I|I
  . rw[XU (by omega)]at g0;rw[XU I]at g3;exact h3 i I (by omega) g0 k g3
  ·have e:i=xs.length:=by simp at hi;omega
   subst e;rw[XV (by omega)]at g0;rw[XV (Xs _)]at g3;have g4:g≠[]:=by simpa using g0
   have g5:y.ownBlock=some k:=by simpa using g3
   exact⟨O.blk g4 g5,H g4 k g5⟩
 refine⟨xs++[y],g1,blsAt_keep g6 λi hi g2 g0 k e=>hk.keep k (key i hi g2 g0 k e).1 (λe2=>(key i hi g2 g0 k e).2 e2.symm),λi hi g2 g0 k e=>⟨X5 (key i hi g2 g0 k e).1 hs,hk.ne (key i hi g2 g0 k e).2 (key i hi g2 g0 k e).1⟩⟩
end
def listL (k:Nat):Nat->List Bool
 | 0=>[]
 | m+1=>decide (k/2^m%2=1)::listL k m
theorem listL_len (k:Nat):∀m,(listL k m).length=m
 | 0=>rfl
 | m+1=>by show(listL k m).length+1=m+1;rw[listL_len k m]
theorem listL_get (k:Nat):∀m i,i<m->(listL k m).getD i false=decide (k/2^(m-1-i)%2=1)
 | 0,i,h=>by omega
 | m+1,0,_=>rfl
 | m+1,i+1,h=>by
   have:=listL_get k m i (by omega);rw[show m+1-1-(i+1)=m-1-i by omega];exact this
theorem listL_add (k M:Nat):∀m,m<=M->listL (2^M+k) m=listL k m
 | 0,_=>rfl
 | m+1,h=>by
   have H:=listL_add k M m (by omega);obtain⟨d,rfl⟩:∃d,M=m+(d+1):=⟨M-m-1,by omega⟩;have e1:(2:Nat)^(m+(d+1))=2^m*(2*2^d):=by rw[Zr,XJ];ac_rfl
   show decide (_/2^m%2=1)::_=decide (k/2^m%2=1)::_
   rw[H,Nat.add_comm,e1,Nat.add_mul_div_left _ _ (Yg (by omega)),Nat.add_mul_mod_self_left]
def upTo (vs:List Nat)(F:BF)(k:Nat):List (List Bool):=((List.range k).map λi=>listL i vs.length).filter λl=>F (asg vs l)
theorem upTo_succ (vs:List Nat)(F:BF)(k:Nat):upTo vs F (k+1)=upTo vs F k++if F (asg vs (listL k vs.length))then [listL k vs.length]else []:=by
 unfold upTo;rw[Zn,XG,Yi];congr 1
 show List.filter _ [_]=_
 rw[Zg,List.filter_nil]
theorem upTo_len (vs:List Nat)(F:BF)(k:Nat):(upTo vs F k).length<=k:=by
 unfold upTo;refine Xz (Yj _ _) ?_;rw[XT,List.length_range];exact Xs _
theorem filter_cons (r:List Nat)(v:Nat)(F:BF)(b:Bool)(L:List (List Bool)):(L.map (b:: ·)).filter (λl=>F (asg (v::r) l))=(L.filter λl=>cofF F v b (asg r l)).map (b:: ·):=List.filter_map
theorem upTo_all:∀(vs:List Nat) (F:BF),upTo vs F (2^vs.length)=allL vs F
 | [],F=>by
   have H:allL [] F=if F (λ_=>false)then [[]]else []:=rfl
   have e0:asg [] []=λ_=>false:=by unfold asg;rfl
   show List.filter _ [[]]=_
   rw[H,Zg,e0,List.filter_nil]
 | v::r,F=>by
   have H:allL (v::r) F=(allL r (cofF F v false)).map (false:: ·)++(allL r (cofF F v true)).map (true:: ·):=rfl;have h2:(2:Nat)^(v::r).length=2^r.length+2^r.length:=by rw[XL,XJ];omega
   have I:0<2^r.length:=Yg (by omega);rw[H,<-upTo_all r (cofF F v false),<-upTo_all r (cofF F v true)];unfold upTo;rw[h2,List.range_add,XG,Yi,Y9];have e1:(List.range (2^r.length)).map (λi=>listL i (v::r).length)=((List.range (2^r.length)).map λi=>listL i r.length).map (false:: ·):=by
    rw[Y9];refine YQ λi hi=>?_
    show decide (i/2^r.length%2=1)::_=false::_
    rw[Y0 (YE.1 hi)];rfl
   have e2:(List.range (2^r.length)).map ((λi=>listL i (v::r).length) ∘ λx=>2^r.length+x)=((List.range (2^r.length)).map λi=>listL i r.length).map (true:: ·):=by
    rw[Y9];refine YQ λi hi=>?_
    show decide ((2^r.length+i)/2^r.length%2=1)::listL (2^r.length+i) r.length=true::listL i r.length
    rw[listL_add i r.length r.length (Xs _),Nat.add_comm (2^r.length) i,Nat.add_div_right _ I,Y0 (YE.1 hi)];rfl
   rw[e1,e2,filter_cons,filter_cons]
def wantB (zs:List Int)(l:List Bool)(v:Nat):Nat->Bool
 | 0=>false
 | k+1=>wantB zs l v k||(decide (at0 zs k=(v:Int))&&l.getD k false)
theorem wantB_iff {zs:List Int}{l:List Bool}{v:Nat}:∀{k:Nat},wantB zs l v k=true↔∃j,j<k/\at0 zs j=(v:Int)/\l.getD j false=true
 | 0=>⟨λh=>(by cases h),λ⟨j,h,_⟩=>(by omega)⟩
 | k+1=>by
   show(wantB zs l v k||_)=true↔_
   rw[Bool.or_eq_true,wantB_iff,XH,YM];constructor
   ·rintro(⟨j,h1,h2⟩|h)
    . exact⟨j,by omega,h2⟩
    . exact⟨k,by omega,h⟩
   ·rintro⟨j,h1,h2⟩;rcases(show j<k\/j=k by omega)with e|rfl
    . exact .inl ⟨j,e,h2⟩
    . exact .inr h2
theorem asg_iff:∀{vs:List Nat} {l:List Bool} {v:Nat},vs.Nodup->l.length=vs.length->(asg vs l v=true↔∃j,j<vs.length/\vs.getD j 0=v/\l.getD j false=true)
 | [],l,v,_,_=>by
   have e0:asg [] l=λ_=>false:=by unfold asg;rfl
   rw[e0];exact⟨λh=>(by cases h),λ⟨j,h,_⟩=>(by simp at h)⟩
 | u::r,[],v,_,h=>by simp at h
 | u::r,b::l,v,hn,h=>by
   rw[YO]at hn;have H:=asg_iff (vs:=r) (l:=l) (v:=v) hn.2 (by simpa using h)
   show(if v=u then b else asg r l v)=true↔_
   by_cases e:v=u
   ·subst e;rw[Xx rfl];constructor
    . intro hb;exact⟨0,by simp,rfl,hb⟩
    ·rintro⟨j,h1,h2,h3⟩;cases j with
     | zero=>exact h3
     | succ j=>
       exfalso;have O:j<r.length:=by simpa using h1
       refine hn.1 ?_;have I:r.getD j 0=v:=h2;rw[<-I];simp[List.getD,O]
   ·rw[Xu e,H];constructor
    . rintro⟨j,h1,h2,h3⟩;exact⟨j+1,by simp;omega,h2,h3⟩
    ·rintro⟨j,h1,h2,h3⟩;cases j with
     | zero=>exact absurd h2.symm e
     | succ j=>exact⟨j,by simp at h1;omega,h2,h3⟩
theorem want_asg {vs:List Nat}{l:List Bool}{v:Nat}(H:vs.Nodup)(hl:l.length=vs.length):wantB (intL vs) l v vs.length=asg vs l v:=by
 rw[Zw,wantB_iff,asg_iff H hl];constructor
 ·rintro⟨j,h1,h2,h3⟩;refine⟨j,h1,?_,h3⟩;have:at0 (intL vs) j=((vs.getD j 0:Nat):Int):=by unfold at0 intL;simp[List.getD,h1]
  rw[this]at h2;exact ZH h2
 ·rintro⟨j,h1,h2,h3⟩;refine⟨j,h1,?_,h3⟩;have:at0 (intL vs) j=((vs.getD j 0:Nat):Int):=by unfold at0 intL;simp[List.getD,h1]
  rw[this,h2]
def isB (zs:List Int)(l:List Bool)(i:Nat):Nat->Bool
 | 0=>true
 | v+1=>isB zs l i v&&(bitB i v == wantB zs l v zs.length)
theorem isB_iff {zs:List Int}{l:List Bool}{i:Nat}:∀{m:Nat},isB zs l i m=true↔∀v,v<m->bitB i v=wantB zs l v zs.length
 | 0=>⟨λ_ v h=>(by omega),λ_=>rfl⟩
 | m+1=>by
   show(isB zs l i m&&_)=true↔_
   rw[XH,isB_iff,ZO];constructor
   ·rintro⟨h1,h2⟩ v H;rcases(show v<m\/v=m by omega)with e|rfl
    . exact h1 v e
    . exact h2
   . exact λh=>⟨λv H=>h v (by omega),h m (by omega)⟩
theorem isB_val {n:Nat}{F:BF}(I:DepF n F)(O:n<=8){zs:List Int}{l:List Bool}{i:Nat}(h:isB zs l i 8=true):F (A4 (AE i n))=F (λv=>wantB zs l v zs.length):=by
 refine I _ _ λv H=>?_
 rw[FG,XQ H,Bool.true_and];exact isB_iff.1 h v (by omega)
theorem isB_ex {n:Nat}{zs:List Int}{l:List Bool}(H:∀z∈zs,0<=z/\z<(n:Int)):∃i,i<2^n/\isB zs l i 8=true:=by
 obtain⟨i,hi,hb⟩:=JE n λv=>wantB zs l v zs.length
 refine⟨i,hi,isB_iff.2 λv _=>?_⟩;rcases X9 v n with e|e
 . exact hb v e
 ·have h1:wantB zs l v zs.length=false:=by
   rw[Bool.eq_false_iff];intro I;obtain⟨j,O,h2,_⟩:=wantB_iff.1 I;have:=H (at0 zs j) (by unfold at0;simp[List.getD,O]);omega
  have h2:bitB i v=false:=by
   unfold bitB;rw[Y0 (X5 hi (X8 (by omega) e))];rfl
  rw[h1,h2]
theorem pow64 {n:Nat}(h:n<=16):2^n<=65536:=by
 have:=X8 (n:=2) (by omega) h;simpa using this
def rowI (k m i:Nat):List Bool:=(List.range m).map λj=>if i<=j then decide (k/2^(m-1-j)%2=1)else false
theorem rowI_len (k m i:Nat):(rowI k m i).length=m:=by simp[rowI]
theorem rowI_m (k m:Nat):rowI k m m=List.replicate m false:=by
 refine Ym (by simp[rowI]) λj h1 h2=>?_
 have:j<m:=by simpa [rowI]using h1
 simp[rowI];omega
theorem rowI_zero (k m:Nat):rowI k m 0=listL k m:=by
 refine Ym (by rw[rowI_len,listL_len]) λj h1 h2=>?_
 have H:j<m:=by simpa [rowI]using h1
 have:=listL_get k m j H;simp only[List.getD,Xy h2,Z7]at this;rw[this];simp[rowI]
theorem rowI_get {k m i j:Nat}(h:j<m):(rowI k m i).getD j false=if i<=j then decide (k/2^(m-1-j)%2=1)else false:=by
 simp[rowI,List.getD,h]
theorem rowI_set {k m i:Nat}(h:i<m):(rowI k m (i+1)).set i (decide (k/2^(m-1-i)%2=1))=rowI k m i:=by
 refine Ym (by rw[XE,rowI_len,rowI_len]) λj h1 h2=>?_
 have H:j<m:=by simpa [rowI]using h2
 rw[Z6]
 by_cases e:i=j
 . subst e;rw[Xx rfl];simp[rowI]
 ·rw[Xu e];simp only[rowI,ZS,List.getElem_range]
  by_cases c:i+1<=j
  . rw[Xx c,Xx (by omega)]
  . rw[Xu c,Xu (by omega)]
theorem list20_any (k m:Nat)(hk:k<=4611686018427387904)(y:m<=1000)(w:Wd):
 Cl 54 #[Iv (k:Nat),Iv (m:Nat)] w λx w'=>∃v,x=.returned v/\OwnB w' w.heap.size v (listL k m)/\Bw w w':=by
 obtain⟨K,Y⟩:=Ex k;have p:=Hd Y;have g9:k/2^(m-m)=K:=by simp[Y]
 have z:=Hd g9;clear g9
 go_enter func54,ntmps54
 go_wp2_with (at_make;refine C7 C6 rfl _ _ rfl w.heap.size w _ m rfl rfl rfl (by omega) (Xs _) (X7 _ _) ?_;intro g e g1 d l ge h gf;clear gf)
 have c:Hq (OwnB e w.heap.size (.slice (some (Av g)) m m) (rowI K m m)):=Hd (by
  rw[rowI_m];unfold OwnB;simpa [AA]using g1)
 have gc:=Hd d;clear g1 d l ge;go_wp2_with fail
 go_loopw [0,6] (λf U wr=>∃(i H:Nat),i<=m/\H<=4611686018427387904/\U=Iv ((i:Int)-1)/\f=Iv (H:Nat)/\Hq (H=K/2^(m-i))/\Hq (OwnB wr w.heap.size (.slice (some (Av g)) m m) (rowI K m i))/\Hq (Bw w wr)) (λ_ U _=>(intOf U+1).toNat)
 case atStart=>exact⟨m,k,Xs _,hk,rfl,rfl,Hd (by simp[Y]),c,gc⟩
 case round=>
  clear c gc;obtain⟨i,H,hi,A,rfl,rfl,g2,I,O⟩:=hrel
  by_cases h0:i=0
  . subst h0;have s:Hq (∃v,Ending.returned (.slice (some (Av g)) m m)=.returned v/\OwnB wr w.heap.size v (listL k m)/\Bw w wr):=Hd ⟨_,rfl,by have:=I.o;rw[rowI_zero,p.o]at this;exact this,O.o⟩;clear I O g2;go_wp2_with fail;go_ret;exact s.o
  ·obtain⟨j,rfl⟩:∃j,i=j+1:=⟨i-1,by omega⟩;have e1:(((j+1:Nat):Int)-1)=(j:Int):=by omega
   rw[e1];have X:j<m:=by omega
   have gk:(j:Int)<(m:Int):=by omega
   have t:wr.cell? (Aw g j)=some (.bool false):=by
    rw[I.o.cellB j (by rw[rowI_len];exact X),rowI_get X,Xu (by omega)]
   have u:=I.o.frozen j;have g0:Hq (∀b,b=decide (H%2=1)->OwnB (wr.setCell (Aw g j) (.bool b)) w.heap.size (.slice (some (Av g)) m m) (rowI K m j)):=Hd λb hb=>by
    have hs:=rowI_set (k:=K) X;have n:m-(j+1)=m-1-j:=by omega
    rw[<-n,<-g2.o,<-hb]at hs;rw[<-hs];exact I.o.setB j b
   have g3:Hq (∀b,Bw w (wr.setCell (Aw g j) (.bool b))):=Hd λb=>O.o.setCell h _
   have g6:Hq (H/2=K/2^(m-j)):=Hd (by
    rw[g2.o,show m-j=(m-(j+1))+1 by omega,XJ,Zb])
   have g4:H/2<=4611686018427387904:=by omega
   obtain⟨r,Z⟩:=Ex (H%2);obtain⟨q,a⟩:=Ex (H/2);have g8:r<2:=by omega
   have C:(H:Int).tmod 2=((r:Nat):Int):=by rw[YI (by omega)];omega
   have B:(H:Int).tdiv 2=((q:Nat):Int):=by rw[ZN (by omega)];omega
   rw[<-a]at g6 g4;rw[<-Z]at g0;clear I O g2 Z a;rcases(show r=0\/r=1 by omega)with rfl|rfl
   ·have g5:=Hd (g0.o false rfl);have g7:=Hd (g3.o false);clear g0 g3 g8;go_wp2_with fail;go_roundw
    case rel=>exact⟨j,q,by omega,g4,by first|rfl|go_num,by first|rfl|go_num,g6,g5,g7⟩
    case measure=>simp[intOf]
   ·have g5:=Hd (g0.o true rfl);have g7:=Hd (g3.o true);clear g0 g3 g8;go_wp2_with fail;go_roundw
    case rel=>exact⟨j,q,by omega,g4,by first|rfl|go_num,by first|rfl|go_num,g6,g5,g7⟩
    case measure=>simp[intOf]
theorem at20_any {n:Nat}{F:BF}(s:n<=8)(t:DepF n F){m:Option Addr}{cu:Nat}{w:Wd}(h1:AM w m (tabB n F)){zs:List Int}{a:Option Addr}{c:Nat}(X:Aj w a zs)(Y:∀z∈zs,0<=z/\z<(n:Int)){l:List Bool}{p:Option Addr}{cl:Nat}(hl:AM w p l)(g:l.length=zs.length):
 Cl 13 #[.slice m (2^n) cu,.slice a zs.length c,.slice p zs.length cl] w (Sm (.bool (F (λv=>wantB zs l v zs.length))) w):=by
 obtain⟨P,h⟩:=Ex ((Sm (.bool (F (λv=>wantB zs l v zs.length))) w):Ending->Wd->Prop)
 have g4:Hq (∀(i v:Nat) W,i<=65536->v<=16->Cl 52 #[Iv (i:Nat),Iv (v:Nat)] W (Sm (.bool (bitB i v)) W)):=Hd λi v W hi M=>J9 i v (by omega) (by omega) W
 have g2:Hq (∀k,k<2^n->∃b off,m=some (Aw b off)/\w.cell? (Aw b (off+k))=some (.bool (F (A4 (AE k n))))):=Hd λk hk=>by
  obtain⟨b,off,e,u⟩:=h1.cells k (by rw[BU];exact hk);rw[EW hk]at u;exact⟨b,off,e,u⟩
 have g3:Hq (∀k,k<zs.length->∃b off,a=some (Aw b off)/\w.cell? (Aw b (off+k))=some (Iv (at0 zs k))):=Hd X.cells;have g5:Hq (∀k,k<zs.length->∃b off,p=some (Aw b off)/\w.cell? (Aw b (off+k))=some (.bool (l.getD k false))):=Hd λk hk=>hl.cells k (by omega)
 have gk:=X.len;obtain⟨L,g7⟩:=Ex (2^n);have go:L<=65536:=by rw[g7];exact pow64 (by omega)
 have g0:Hq (∀i b,i<L->isB zs l i 8=true->b=F (A4 (AE i n))->P (.returned (.bool b)) w):=Hd λi b hi hb e=>by
  rw[h,e,isB_val t s hb];exact⟨rfl,rfl⟩
 have g6:Hq ((∀i,i<L->isB zs l i 8=false)->False):=Hd λge=>by
  obtain⟨i,hi,hb⟩:=isB_ex (l:=l) Y;rw[ge i (by rw[g7];exact hi)]at hb;cases hb
 rw[<-g7]at g2⊢;rw[<-h];clear h h1 X Y hl g g7 t s
 go_enter func13,ntmps13
 go_wp2_with fail
 go_loopw [7,8,9,10,11] (λd _ _ _ _ wr=>∃i:Nat,i<=L/\d=Iv (i:Int)/\wr=w/\Hq (∀j,j<i->isB zs l j 8=false)) (λd _ _ _ _ _=>L-(intOf d).toNat)
 case atStart=>exact⟨0,X0 _,rfl,rfl,Hd (λj N=>by omega)⟩
 case round=>
  obtain⟨i,hi,rfl,rfl,HQ⟩:=hrel
  by_cases B:i<L
  ·have S:(i:Int)<(L:Int):=by omega
   go_wp2_with fail;obtain⟨wo,gg⟩:∃W,W=wr:=⟨_,rfl⟩;subst gg
   go_loopw [8,9,10,11] (λG Z _ _ wr=>∃(v:Nat) (own:Bool),v<=8/\Z=Iv (v:Int)/\G=.bool own/\wr=wo/\Hq (own=isB zs l i v)) (λ_ Z _ _ _=>8-(intOf Z).toNat)
   case atStart=>exact⟨0,true,X0 _,rfl,rfl,rfl,Hd rfl⟩
   case round=>
    obtain⟨v,own,M,rfl,rfl,rfl,U⟩:=hrel
    by_cases gj:v<8
    ·have V:(v:Int)<8:=by omega
     go_wp2_with fail;obtain⟨wq,gf⟩:∃W,W=wr:=⟨_,rfl⟩;subst gf
     go_loopw [10,11] (λf O wr=>∃(k:Nat) (I:Bool),k<=zs.length/\O=Iv (k:Int)/\f=.bool I/\wr=wq/\Hq (I=wantB zs l v k)) (λ_ O _=>zs.length-(intOf O).toNat)
     case atStart=>exact⟨0,false,X0 _,rfl,rfl,rfl,Hd rfl⟩
     case round=>
      obtain⟨k,I,hk,rfl,rfl,rfl,g8⟩:=hrel
      by_cases g9:k<zs.length
      ·have T:(k:Int)<(zs.length:Int):=by omega
       obtain⟨b1,K,rfl,c1⟩:=g3.o k g9;obtain⟨b2,J,rfl,c2⟩:=g5.o k g9;have H:Hq (wantB zs l v (k+1)=(I||(decide (at0 zs k=(v:Int))&&l.getD k false))):=Hd (by rw[g8.o];rfl);obtain⟨z,X⟩:=Ex (at0 zs k);obtain⟨y,r⟩:=Ex (l.getD k false);rw[<-X]at c1 H;rw[<-r]at c2 H;clear X r g8 U HQ g0 g6 g4 g2 g3 g5;have g1:=Hd H.o.symm;clear H;cases I with
       | true=>
         go_wp2_with fail;go_roundw
         case rel=>exact⟨k+1,true,by omega,by go_num,by first|rfl|trivial,by first|rfl|trivial,Hd (by have:=g1.o;simpa using this)⟩
         case measure=>simp[intOf];omega
       | false=>
         by_cases C:z=(v:Int)
         ·subst C;go_wp2_with fail;go_roundw
          case rel=>exact⟨k+1,y,by omega,by go_num,by first|rfl|trivial,by first|rfl|trivial,Hd (by have:=g1.o;simpa using this)⟩
          case measure=>simp[intOf];omega
         ·go_wp2_with fail;go_roundw
          case rel=>exact⟨k+1,false,by omega,by go_num,by first|rfl|trivial,by first|rfl|trivial,Hd (by have:=g1.o;simpa [C]using this)⟩
          case measure=>simp[intOf];omega
      ·obtain rfl:k=zs.length:=by omega
       have gi:¬ (zs.length:Int)<(zs.length:Int):=by omega
       have E:=Hd (g4.o i v wr (by omega) (by omega));have H:Hq (isB zs l i (v+1)=(own&&(bitB i v == I))):=Hd (by rw[U.o,g8.o];rfl);obtain⟨R,A⟩:=Ex (bitB i v);rw[<-A]at E H;have g1:=Hd H.o.symm;clear A g8 U HQ g0 g6 g4 g2 g3 g5 H;cases own with
       | false=>
         go_wp2_with fail;go_roundw
         case rel=>exact⟨v+1,false,by omega,by go_num,by first|rfl|trivial,by first|rfl|trivial,Hd (by have:=g1.o;simpa using this)⟩
         case measure=>simp[intOf];omega
       | true=>
         go_wp2_with fail;refine E.o.mono ?_;rintro x w' ⟨rfl,rfl⟩;go_wp2_with fail;go_roundw
         case rel=>exact⟨v+1,R == I,by omega,by go_num,by first|rfl|trivial,by first|rfl|trivial,Hd (by have:=g1.o;simpa using this)⟩
         case measure=>simp[intOf];omega
    ·obtain rfl:v=8:=by omega
     obtain⟨b,off,rfl,D⟩:=g2.o i B;cases own with
     | true=>
       have q:=Hd (g0.o i _ B U.o.symm rfl);obtain⟨f0,gc⟩:=Ex (F (A4 (AE i n)));rw[<-gc]at D q;clear gc U HQ g0 g6 g4 g2 g3 g5;go_wp2_with fail
       first|exact q.o|exact X2 (YD rfl _ _ _) rfl q.o
     | false=>
       have Q:Hq (∀j,j<i+1->isB zs l j 8=false):=Hd λj N=>by
        rcases(show j<i\/j=i by omega)with e|rfl
        . exact HQ.o j e
        . exact U.o.symm
       clear U HQ g0 g6 g4 g2 g3 g5 D;go_wp2_with fail;go_roundw
       case rel=>exact⟨i+1,by omega,by go_num,by first|rfl|trivial,Q⟩
       case measure=>simp[intOf];omega
  ·obtain rfl:i=L:=by omega
   exact(g6.o HQ.o).elim
theorem nodup_upto {zs:List Int}(h:∀i,i<zs.length->∀k,k<i->at0 zs k≠at0 zs i):zs.Nodup:=
 Zd.2 λi j hi I H e=>h j I i H (by rw[A8 hi,A8 I];exact e)
theorem nodup_not {zs:List Int}{i k:Nat}(hi:i<zs.length)(hk:k<i)(h:at0 zs k=at0 zs i):¬ zs.Nodup:=λI=>by
 have H:k<zs.length:=by omega
 rw[A8 H,A8 hi]at h;exact Zd.1 I k i H hi hk h
theorem vars20_any {n:Nat}{F:BF}(hn:n<=16){A:Option Addr}{cu:Nat}{w:Wd}(h1:AM w A (tabB n F)){zs:List Int}{a:Option Addr}{c:Nat}(O:Aj w a zs):
 Cl 12 #[.slice A (2^n) cu,.slice a zs.length c,Iv (n:Nat)] w (Bl (Iv (chkE n F zs)) w):=by
 obtain⟨P,r⟩:=Ex ((Bl (Iv (chkE n F zs)) w):Ending->Wd->Prop)
 have gk:=Hd r;have X:Hq (∀v W,v<n->Bw w W->Cl 51 #[.slice A (2^n) cu,Iv (v:Nat)] W (Bl (.bool (A5 n F v)) W)):=Hd λv W S hb=>JM n F v hn S A cu W (h1.below hb)
 have U:=Hd O;have gD:=O.len;obtain⟨L,gj⟩:=Ex (2^n);rw[<-gj]at X⊢;have N:Hq (Bw w w):=Hd (X7 _ _);have D:Hq (∀k W,k<zs.length->¬ (0<=at0 zs k/\at0 zs k<(n:Int))->Bw w W->P (.returned (Iv 9)) W):=Hd λk W hk g hb=>by
  have e:=FS (n:=n) (zs:=zs) (z:=at0 zs k) (by rw[A8 hk];exact XM hk) g;rw[r];refine⟨?_,hb⟩;unfold chkE;rw[Xu (by rw[e];decide),e]
 have E:Hq ((∀k,k<zs.length->0<=at0 zs k/\at0 zs k<(n:Int))->∀i k W,i<zs.length->k<i->at0 zs k=at0 zs i->Bw w W->P (.returned (Iv 6)) W):=Hd λg i k W hi hk p hb=>by
  have g9:∀z∈zs,0<=z/\z<(n:Int):=λz O=>by
   obtain⟨j,l,rfl⟩:=Yn O;have:=g j l
   rwa [A8 l]at this
  have e:=Ec g9;rw[Xu (nodup_not hi hk p)]at e;rw[r];refine⟨?_,hb⟩;unfold chkE;rw[Xu (by rw[e];decide),e]
 have C:Hq ((∀k,k<zs.length->0<=at0 zs k/\at0 zs k<(n:Int))->(∀i,i<zs.length->∀k,k<i->at0 zs k≠at0 zs i)->chkE n F zs=if ∀v:Nat,v<n->A5 n F v=true->(v:Int)∈zs then 0 else 1):=Hd λg hd=>by
  have g9:∀z∈zs,0<=z/\z<(n:Int):=λz O=>by
   obtain⟨j,l,rfl⟩:=Yn O;have:=g j l
   rwa [A8 l]at this
  have e:=Ec g9;rw[Xx (nodup_upto hd)]at e;unfold chkE;rw[Xx e];unfold cntE;rw[Xx g9]
 rw[<-r];clear r h1 O gj
 go_enter func12,ntmps12
 go_wp2_with fail
 go_loopw [7] (λK wr=>∃i:Nat,i<=zs.length/\K=Iv (i:Int)/\wr=w/\Hq (∀k,k<i->0<=at0 zs k/\at0 zs k<(n:Int))) (λK _=>zs.length-(intOf K).toNat)
 case atStart=>exact⟨0,X0 _,rfl,rfl,Hd (λk hk=>by omega)⟩
 case round=>
  obtain⟨i,hi,rfl,rfl,Y⟩:=hrel
  by_cases g6:i<zs.length
  ·have gt:(i:Int)<(zs.length:Int):=by omega
   obtain⟨b,off,rfl,d0⟩:=U.o.cells i g6;have g5:Hq (¬ (0<=at0 zs i/\at0 zs i<(n:Int))->P (.returned (Iv 9)) wr):=Hd λg=>D.o i wr g6 g N.o
   have g2:Hq ((0<=at0 zs i/\at0 zs i<(n:Int))->∀k,k<i+1->0<=at0 zs k/\at0 zs k<(n:Int)):=Hd λh k hk=>by
    rcases(show k<i\/k=i by omega)with e|rfl
    . exact Y.o k e
    . exact h
   obtain⟨z,O⟩:=Ex (at0 zs i);rw[<-O]at d0 g5 g2;clear O Y
   by_cases h0:z<0
   ·have I:=Hd (g5.o (by omega));clear X U D E C g2 g5;go_wp2_with fail
    first|exact I.o|exact X2 (YD rfl _ _ _) rfl I.o
   by_cases h1:z>=(n:Int)
   ·have I:=Hd (g5.o (by omega));clear X U D E C g2 g5;go_wp2_with fail
    first|exact I.o|exact X2 (YD rfl _ _ _) rfl I.o
   have gv:=Hd (g2.o (by omega));clear g2 g5;go_wp2_with fail;go_roundw
   case rel=>exact⟨i+1,by omega,by go_num,by first|rfl|trivial,gv⟩
   case measure=>simp[intOf];omega
  ·obtain rfl:i=zs.length:=by omega
   have gC:¬ (zs.length:Int)<(zs.length:Int):=by omega
   have gc:=Hd (E.o Y.o);have t:=Hd (C.o Y.o);clear D E C Y;go_wp2_with fail;obtain⟨wo,gq⟩:∃W,W=wr:=⟨_,rfl⟩;subst gq
   go_loopw [8,9] (λJ _ wr=>∃i:Nat,i<=zs.length/\J=Iv (i:Int)/\Hq (Bw wo wr)/\Hq (∀j,j<i->∀k,k<j->at0 zs k≠at0 zs j)) (λJ _ _=>zs.length-(intOf J).toNat)
   case atStart=>exact⟨0,X0 _,rfl,N,Hd (λk hk=>by omega)⟩
   case round=>
    obtain⟨i,hi,rfl,H,Y⟩:=hrel
    by_cases g6:i<zs.length
    ·have gt:(i:Int)<(zs.length:Int):=by omega
     go_wp2_with fail
     go_loopw [9] (λG wx=>∃k:Nat,k<=i/\G=Iv (k:Int)/\Hq (Bw wo wx)/\Hq (∀q,q<k->at0 zs q≠at0 zs i)) (λG _=>i-(intOf G).toNat)
     case atStart=>exact⟨0,X0 _,rfl,H,Hd (λk hk=>by omega)⟩
     case round=>
      clear H;obtain⟨k,hk,rfl,H,HQ⟩:=hrel
      by_cases gn:k<i
      ·have gr:(k:Int)<(i:Int):=by omega
       obtain⟨b1,f,e1,c1⟩:=(U.o.below H.o).cells k (by omega);obtain⟨b2,of2,e2,c2⟩:=(U.o.below H.o).cells i g6;subst e1;injection e2 with e2
       injection e2 with e2 e3 _
       subst e2;subst e3
       have gF:k<zs.length:=by omega
       have T:=Hd (H.o.trans ((An _ 1).mono H.o.size));have g1:Hq (at0 zs k≠at0 zs i->∀q,q<k+1->at0 zs q≠at0 zs i):=Hd λe q m=>by
        rcases(show q<k\/q=k by omega)with h|rfl
        . exact HQ.o q h
        . exact e
       have s:Hq (at0 zs k=at0 zs i->P (.returned (Iv 6)) (World.drewN _ 1)):=Hd λe=>gc.o i k _ g6 gn e T.o
       obtain⟨y1,gd⟩:∃y,y=at0 zs k:=⟨_,rfl⟩;obtain⟨y2,g8⟩:∃y,y=at0 zs i:=⟨_,rfl⟩;rw[<-gd,<-g8]at g1 s;rw[<-gd]at c1;rw[<-g8]at c2;have gu:=Hd g8;clear gd g8 HQ gc t U X;go_upto_region 12 with fail;refine AJ (λW:Wd=>W.cell? (Aw b1 (f+k))=some (Iv y1)/\W.cell? (Aw b1 (f+i))=some (Iv y2)) false 9
        [(0,false),(1,false),(2,false),(3,false),(4,false),(5,false),(6,false),(7,false),(8,false)] (by kernel_rfl) (by kernel_rfl) ⟨c1,c2⟩ ?_
       simp only[planned,AI]
       iterate 9
        refine A0 rfl ?_;apply Exists.intro;refine⟨λw' hw=>?_,?_⟩
        . obtain⟨h1,h2⟩:=hw;go_simp;rfl
        simp only[Ab]
       refine B6 ?_;clear c1 c2
       by_cases p:y1=y2
       ·have I:=Hd (s.o p);subst p;clear g1 s;go_wp2_with fail
        first|exact I.o|exact X2 (YD rfl _ _ _) rfl I.o
       ·have gw:=Hd (g1.o p);clear g1 s;go_wp2_with fail;go_roundw
        case rel=>exact⟨k+1,by omega,by go_num,T,Hd λq m=>by rw[<-gu.o];exact gw.o q m⟩
        case measure=>simp[intOf];omega
      ·obtain rfl:k=i:=by omega
       have gB:¬ (k:Int)<(k:Int):=by omega
       have g2:Hq (∀j,j<k+1->∀q,q<j->at0 zs q≠at0 zs j):=Hd λj l q m=>by
        rcases(show j<k\/j=k by omega)with e|rfl
        . exact Y.o j e q m
        . exact HQ.o q m
       clear HQ Y gc t U X;go_wp2_with fail;go_roundw
       case rel=>exact⟨k+1,by omega,by go_num,H,g2⟩
       case measure=>simp[intOf];omega
    ·obtain rfl:i=zs.length:=by omega
     have g3:=Hd (t.o Y.o);clear gc t Y N;have gA:¬ (zs.length:Int)<(zs.length:Int):=by omega
     go_wp2_with fail
     go_loopw [10,11,12] (λd _ _ wr=>∃v:Nat,v<=n/\d=Iv (v:Int)/\Hq (Bw wo wr)/\Hq (∀u:Nat,u<v->A5 n F u=true->(u:Int)∈zs)) (λd _ _ _=>n-(intOf d).toNat)
     case atStart=>exact⟨0,X0 _,rfl,H,Hd (λk hk=>by omega)⟩
     case round=>
      clear H;obtain⟨v,S,rfl,H,HQ⟩:=hrel
      by_cases gf:v<n
      ·have gE:(v:Int)<(n:Int):=by omega
       go_wp2_with fail;obtain⟨wq,gp⟩:∃W,W=wr:=⟨_,rfl⟩;subst gp
       go_loopw [11,12] (λM Z wr=>∃(k:Nat) (is:Bool),k<=zs.length/\Z=Iv (k:Int)/\M=.bool is/\wr=wq/\Hq (is=decide ((v:Int)∈zs.take k))) (λ_ Z _=>zs.length-(intOf Z).toNat)
       case atStart=>exact⟨0,false,X0 _,rfl,rfl,rfl,Hd (by simp)⟩
       case round=>
        obtain⟨k,is,hk,rfl,rfl,rfl,B⟩:=hrel
        by_cases ge:k<zs.length
        ·have gr:(k:Int)<(zs.length:Int):=by omega
         obtain⟨b1,f,rfl,c1⟩:=(U.o.below H.o).cells k ge
         have g0:Hq ((is||decide (at0 zs k=(v:Int)))=decide ((v:Int)∈zs.take (k+1))):=Hd (by
          rw[Zk,getElem?_at0 ge,B.o];simp only[Option.toList,XD,XB,Bool.decide_or];congr 1;exact ZT.2 eq_comm)
         obtain⟨z,O⟩:=Ex (at0 zs k);rw[<-O]at c1 g0;clear O B HQ g3 X U;cases is with
         | true=>
           go_wp2_with fail;go_roundw
           case rel=>exact⟨k+1,true,by omega,by go_num,by first|rfl|trivial,by first|rfl|trivial,Hd (by have:=g0.o;simpa using this)⟩
           case measure=>simp[intOf];omega
         | false=>
           go_wp2_with fail;go_roundw
           case rel=>exact⟨k+1,decide (z=(v:Int)),by omega,by go_num,by first|rfl|trivial,by first|rfl|trivial,Hd (by have:=g0.o;simpa using this)⟩
           case measure=>simp[intOf];omega
        ·obtain rfl:k=zs.length:=by omega
         have gy:¬ (zs.length:Int)<(zs.length:Int):=by omega
         have R:=B.o;rw[XP]at R;have g0:=Hd R;clear B R;cases is with
         | true=>
           have g1:Hq (∀u:Nat,u<v+1->A5 n F u=true->(u:Int)∈zs):=Hd λu hu hh=>by
            rcases(show u<v\/u=v by omega)with e|rfl
            . exact HQ.o u e hh
            . exact YG g0.o.symm
           clear g0 HQ g3 X U;go_wp2_with fail;go_roundw
           case rel=>exact⟨v+1,by omega,by go_num,H,g1⟩
           case measure=>simp[intOf];omega
         | false=>
           have g7:(v:Int)∉zs:=of_decide_eq_false g0.o.symm;have g4:=Hd (X.o v wr gf H.o);cases hh:A5 n F v with
           | true=>
             rw[hh]at g4;have I:Hq (∀W,Bw wo W->P (.returned (Iv 1)) W):=Hd λW hb=>by
              rw[gk.o];have e:=g3.o;rw[Xu (λgo=>g7 (go v gf hh))]at e;rw[e];exact⟨rfl,hb⟩
             clear hh g0 HQ g3 X U g7;go_wp2_with fail;refine g4.o.mono ?_;rintro x w' ⟨rfl,hb⟩;have V:=Hd (I.o w' (H.o.trans (hb.mono H.o.size)));clear hb g4 I H;go_wp2_with fail
             first|exact V.o|exact X2 (YD rfl _ _ _) rfl V.o
           | false=>
             rw[hh]at g4;have g1:Hq (∀u:Nat,u<v+1->A5 n F u=true->(u:Int)∈zs):=Hd λu hu Q=>by
              rcases(show u<v\/u=v by omega)with e|rfl
              . exact HQ.o u e Q
              . rw[hh]at Q;cases Q
             clear hh g0 HQ g3 X U g7;go_wp2_with fail;refine g4.o.mono ?_;rintro x w' ⟨rfl,hb⟩;have gx:=Hd (H.o.trans (hb.mono H.o.size));clear hb g4 H;go_wp2_with fail;go_roundw
             case rel=>exact⟨v+1,by omega,by go_num,gx,g1⟩
             case measure=>simp[intOf];omega
      ·obtain rfl:v=n:=by omega
       have gz:¬ (v:Int)<(v:Int):=by omega
       have I:Hq (P (.returned (Iv 0)) wr):=Hd (by
        rw[gk.o];have e:=g3.o;rw[Xx HQ.o]at e;rw[e];exact⟨rfl,H.o⟩)
       clear HQ g3 X U;go_wp2_with fail
       first|exact I.o|exact X2 (YD rfl _ _ _) rfl I.o
theorem all20_any {n:Nat}{F:BF}(H:n<=8)(M:DepF n F){G:Option Addr}{cu:Nat}{w:Wd}(h1:AM w G (tabB n F)){vs:List Nat}{a:Option Addr}{c:Nat}(b:Aj w a (intL vs))(Y:vs.Nodup)(O:∀v∈vs,v<n)(X:vs.length<=8):
 Cl 15 #[.slice G (2^n) cu,.slice a vs.length c] w λx w'=>∃v,x=.returned v/\RowBl w.heap.size v (allL vs F) w'/\Bw w w':=by
 have C:(intL vs).length=vs.length:=by unfold intL;simp
 have V:∀z∈intL vs,0<=z/\z<(n:Int):=λz b=>by
  obtain⟨v,hv,rfl⟩:=X6.1 b;have:=O v hv;omega
 have g6:Hq (∀W (l:List Bool) I cl,Bw w W->AM W I l->l.length=vs.length->Cl 13 #[.slice G (2^n) cu,.slice a vs.length c,.slice I vs.length cl] W (Sm (.bool (F (asg vs l))) W)):=Hd λW l I cl hb hl gp=>by
  have:=at20_any H M (cu:=cu) (h1.below hb) (c:=c) (b.below hb) V (cl:=cl) hl (by rw[C];exact gp);rw[C]at this;refine this.mono λx w' hx=>?_
  rw[hx.1];refine⟨?_,hx.2⟩;congr 3;funext v;exact want_asg Y gp
 have g8:Hq (∀(k:Nat) W,k<=256->Cl 54 #[Iv (k:Nat),Iv (vs.length:Nat)] W λx w'=>∃v,x=.returned v/\OwnB w' W.heap.size v (listL k vs.length)/\Bw W w'):=Hd λk W hk=>list20_any k vs.length (by omega) (by omega) W
 have g0:Hq (∀v W,RowBl w.heap.size v (upTo vs F (2^vs.length)) W->RowBl w.heap.size v (allL vs F) W):=Hd λv W h=>by rw[upTo_all]at h;exact h
 have g5:Hq (∀k,upTo vs F (k+1)=upTo vs F k++if F (asg vs (listL k vs.length))then [listL k vs.length]else []):=Hd (upTo_succ vs F);have E:2^vs.length<=256:=Xz (X8 (by omega) X) (by decide);obtain⟨m,t⟩:=Ex vs.length;have HM:=Hd t;rw[<-t]at g6 g8 g0 g5 X E⊢;obtain⟨L,gt⟩:=Ex (2^n);rw[<-gt]at g6⊢;have gD:Hq (∀i,i<=m->2^i<=256):=Hd λi hi=>Xz (X8 (by omega) hi) E
 obtain⟨w1,f⟩:=Ex (w.alloc (.cells #[] 28));have S:Hq (_=w1):=Hd f.symm;have g9:=D1 28 w w.heap.size (Xs _);rw[<-f]at g9;have T:Bw w w1:=by rw[f];exact Ag _ _
 have A:Hq (RowBl w.heap.size (.slice (some (Av w.heap.size)) 0 0) (upTo vs F 0) w1):=Hd ⟨[],g9,⟨rfl,λi h=>by simp at h⟩,λi h=>by simp at h⟩;have N:=Hd T;clear g9 T f t E h1 b Y O M H C V gt
 go_enter func15,ntmps15
 go_upto_region 2 with fail;rw[S.o];clear S;go_wp2_with fail
 go_loopw [6,7] (λs6 r wr=>∃i p:Nat,i<=m/\r=Iv (i:Int)/\s6=Iv (p:Int)/\p<=256/\wr=w1/\Hq (p=2^i)) (λ_ r _=>m-(intOf r).toNat)
 case atStart=>exact⟨0,1,X0 _,rfl,rfl,by omega,rfl,Hd rfl⟩
 case round=>
  obtain⟨i,p,hi,rfl,rfl,hp,rfl,HP⟩:=hrel
  by_cases O:i<m
  ·have gN:(i:Int)<(m:Int):=by omega
   have gA:2*p<=256:=by rw[HP.o];have:=gD.o (i+1) (by omega);rw[XJ]at this;omega
   have gE:Hq (2*p=2^(i+1)):=Hd (by rw[HP.o,XJ];omega);clear g6 g8 g0 g5 A HP;go_wp2_with fail;go_roundw
   case rel=>exact⟨i+1,2*p,by omega,by go_num,by go_num,gA,by first|rfl|trivial,gE⟩
   case measure=>simp[intOf];omega
  ·obtain rfl:i=m:=by omega
   have gI:¬ (i:Int)<(i:Int):=by omega
   go_wp2_with fail
   go_loopw [5,8,9] (λs5 j _ wx=>∃k:Nat,k<=p/\j=Iv (k:Int)/\Hq (RowBl w.heap.size s5 (upTo vs F k) wx)/\Hq (Bw w wx)) (λ_ j _ _=>p-(intOf j).toNat)
   case atStart=>exact⟨0,X0 _,rfl,A,N⟩
   case round=>
    clear A N;obtain⟨k,hk,rfl,U,J⟩:=hrel
    by_cases gJ:k<p
    ·have gM:(k:Int)<(p:Int):=by omega
     obtain⟨wo,gy⟩:∃W,W=wr:=⟨_,rfl⟩;subst gy;have R:=Hd (g8.o k wo (by omega))
     have gF:Hq (∀q,u5.ownBlock=some q->q<wo.heap.size):=Hd (by
      obtain⟨Z,hy,_⟩:=U.o;exact λq s=>(hy.lt q s).2)
     go_wp2_with fail;refine R.o.mono ?_;rintro x w2 ⟨u,rfl,hu,gc⟩;have gz:=hu.boolsIs (by rw[listL_len];omega);obtain⟨I,cl,rfl,hl,go⟩:=gz;rw[listL_len]at hu;have ge:=Hd (J.o.trans (gc.mono J.o.size));have y:=Hd (g6.o w2 (listL k i) I cl ge.o hl (by rw[listL_len]));have HU:=Hd hu;have Q:Hq (Ay w2 (.slice I i cl) (listL k i)):=Hd ⟨I,cl,by rw[listL_len],hl,go⟩;have d:=Hd (U.o.below gc);have gK:=Hd gc.size;rw[listL_len];clear hu hl go gc R g8 g6 U;go_wp2_with fail;refine y.o.mono ?_;rintro x w' ⟨rfl,rfl⟩;have H:=g5.o k;cases hb:F (asg vs (listL k i))with
     | false=>
       rw[hb]at H;have g:Hq (upTo vs F (k+1)=upTo vs F k):=Hd (by rw[H];simp);have gk:Hq (RowBl w.heap.size u5 (upTo vs F (k+1)) w2):=Hd (by rw[g.o];exact d.o);clear hb H g y d HU Q g0 g5;go_wp2_with fail;go_roundw
       case rel=>exact⟨k+1,by omega,by go_num,gk,ge⟩
       case measure=>simp[intOf];omega
     | true=>
       rw[hb,Xx rfl]at H;have g:=Hd H;obtain⟨Z,g7,gf,gn⟩:=d.o;have gL:Z.length<=1000:=by have:=gf.len;have:=upTo_len vs F k;omega
       have B:=Hd g7;have gC:=Hd gf;have gB:=Hd gn;have gO:=ge.o.size;clear hb H y g7 gf gn d g5 g0;go_wp2_with (at_builtin;refine Dh elemBools w2 rfl _ _ rfl w.heap.size _ Z (.slice I i cl) rfl rfl rfl rfl rfl B.o (by omega) (by omega) ?_;intro v5 K gb g1 g2 g3 g4 D)
       have gk:Hq (RowBl w.heap.size v5 (upTo vs F (k+1)) K):=Hd (by
        rw[g.o]
        exact RowBl.app B.o gC.o gB.o Q.o (λ_ q s e=>by
         have h1:=gF.o q e;have h2:=(HU.o.lt _ s).1;omega) gb g4 D)
       have gG:Hq (Bw w K):=Hd (FF ge.o B.o g1 g2 g3 g4 D (by omega));clear gb g1 g2 g3 g4 D;go_roundw
       case rel=>exact⟨k+1,by omega,by go_num,gk,gG⟩
       case measure=>simp[intOf];omega
    ·obtain rfl:k=p:=by omega
     have gH:¬ (k:Int)<(k:Int):=by omega
     have HF:=Hd (g0.o _ _ (by have:=U.o;rw[HP.o]at this;exact this));obtain⟨Z,g7,_⟩:=U.o;obtain⟨a5,c5,e5,_⟩:=g7.slice;subst e5;clear U g7 g0 g5 g6 g8;go_wp2_with fail;go_ret;exact⟨_,rfl,HF.o,J.o⟩
theorem room20 {n c:Nat}(H:c<=100):c*2^n+(2^n+(2^n-1)*2^n)<=AQ n:=by
 have h1:1<=2^n:=ZE;have h2:2^(2*n)=2^n*2^n:=by rw[Nat.two_mul,Zr]
 unfold AQ;rw[h2]
 generalize 2^n=X at h1
 obtain⟨Y,rfl⟩:∃Y,X=Y+1:=⟨X-1,by omega⟩;have h3:c*(Y+1)<=100*(Y+1):=XS _ H;simp only[Nat.add_sub_cancel,ZB,Y8]at h3⊢;omega
end Go.Proofs.YtnphndlbfeagbaaGreat

namespace Go.Proofs.YtnphndlbfeagbaaGreat
open Go.Proofs.Tryz
open Go.RowKit Go.Deep Go.ChangeShapes Go.WideShapes
theorem open_bools {H:Type}{enc:TypeId×Value->H}{w:Wd}{base:Nat}{spare:Nat->Bool}{held:Bool}{fuel:Nat}{cs:List Value}{x:DataW H×List MemPlace}
 (h:DataW.trod enc prog w base spare held fuel 28 cs=some x):∃(a:Option Addr) (bs:List Bool) (c:Nat),cs=[.slice a bs.length c]/\bs.length<=9223372036854775807/\(bs.length<=1000000->Ay w (.slice a bs.length c) bs):=by
 have c1:prog.cellsOf 4=1:=by kernel_rfl
 rcases FZ underlying28 h with e2|⟨a,len,cap,n,e2,hl,U,g5,hx⟩
 . exact⟨none,[],0,e2,by simp,λ_=>⟨none,0,rfl,⟨by simp,λk hk=>by simp at hk⟩,λ_=>rfl⟩⟩
 ·have each:∀i,i<len->∃b:Bool,w.cell? (a.add i)=some (.bool b):=by
   intro i hi;obtain⟨cs',y,h1,h2⟩:=hx i hi;rw[c1,Nat.mul_one]at h1;obtain⟨_,g4,g0⟩:=aQ h1;obtain⟨b,rfl,_⟩:=DataW.trod_bool underlying4 h2;have f0:=g0 0 (by omega);rw[add0]at f0;exact⟨b,by simpa using f0⟩
  obtain⟨q,I⟩:=choose_lt each;refine⟨some a,(List.range len).map q,cap,by rw[e2];simp,by simp;unfold maxLen at U;omega,λg3=>⟨some a,cap,rfl,⟨g3,λk hk=>?_⟩,λe=>by cases e⟩⟩;have g2:k<len:=by simpa using hk
  have g1:a.spot=none:=by
   have O:=I 0 (by omega);have:=FY O;simpa [Addr.add]using this
  obtain⟨b,off,spot⟩:=a;dsimp only at g1;subst g1;refine⟨b,off,rfl,?_⟩;have:=I k g2;rw[FX]at this;rw[this];simp[List.getD,g2]
theorem open_case {H:Type}{enc:TypeId×Value->H}{w:Wd}{base:Nat}{held:Bool}{fuel:Nat}{cs:List Value}{x:DataW H×List MemPlace}
 (h:DataW.trod enc prog w base (λ_=>true) held fuel 30 cs=some x):∃(p k:Int) (av:Option Addr) (lv cv:Nat) (zs:List Int) (I:Option Addr) (bs:List Bool) (cl:Nat),
  cs=[.int .u8 p,.slice av lv cv,.int .u16 k,.slice I bs.length cl]/\(0<=p/\p<256)/\(0<=k/\k<65536)/\SliceIs w (.slice av lv cv) zs/\lv<=cv/\bs.length<=9223372036854775807/\(bs.length<=1000000->Ay w (.slice I bs.length cl) bs):=by
 obtain⟨xs,k,hk,g9,g6,g7,U⟩:=aP underlying30 h;have c1:prog.cellsOf 5=1:=by kernel_rfl
 have c2:prog.cellsOf 22=1:=by kernel_rfl
 have f:prog.cellsOf 27=1:=by kernel_rfl
 have e:prog.cellsOf 28=1:=by kernel_rfl
 have d:prog.cellsOf 30=4:=by kernel_rfl
 rw[d]at g6
 match xs,g7,cs,g6 with
 | [y0,y1,y2,y3],_,[v0,v1,v2,v3],_=>
   have g0:=U 0 _ rfl;have g1:=U 1 _ rfl;have g2:=U 2 _ rfl;have g3:=U 3 _ rfl;simp[c1,c2,f,e]at g0 g1 g2 g3;obtain⟨n0,e0,_,w0⟩:=Zj underlying5 g0;obtain⟨O,e2,_,w2⟩:=Zj underlying27 g2;simp only[Yw,Z9]at e0 e2;subst e0 e2;obtain⟨I,bs,cl,Z,b1,b2⟩:=open_bools g3;simp only[Yw,Z9]at Z;subst Z;have Y:0<=n0/\n0<256:=by
    simp only[Lit.wf,IntKind.min,IntKind.max,IntKind.signed,IntKind.bits,XH,Yk]at w0;simp at w0;omega
   have X:0<=O/\O<65536:=by
    simp only[Lit.wf,IntKind.min,IntKind.max,IntKind.signed,IntKind.bits,XH,Yk]at w2;simp at w2;omega
   rcases open_ints underlying22 underlying3 (by kernel_rfl) g1 with ⟨g4,_⟩|⟨y,l,c,zs,g4,_,hl,b,a,_,g5,g8⟩
   . simp only[Yw,Z9]at g4;subst g4;exact⟨n0,O,none,0,0,_,I,bs,cl,rfl,Y,X,sliceIs_of_row (.inl ⟨rfl,rfl,rfl,rfl⟩),Xs _,b1,b2⟩
   . simp only[Yw,Z9]at g4;subst g4;exact⟨n0,O,some y,l,c,_,I,bs,cl,rfl,Y,X,sliceIs_of_row (.inr ⟨_,rfl,hl,b,by simpa using a,g5,g8⟩),hl,b1,b2⟩
end Go.Proofs.YtnphndlbfeagbaaGreat
