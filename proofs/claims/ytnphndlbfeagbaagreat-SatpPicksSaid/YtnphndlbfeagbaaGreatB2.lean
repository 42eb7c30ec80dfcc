/- Several texts in one file: contracts of the program's functions and what follows from them. -/
import Derived.Test.YtnphndlbfeagbaaGreatB1
import Derived.Laws.IdiomCopy
import Derived.Deep.Cut
import Derived.Deep.CutRange
import Derived.Deep.DeepCutAuto
import Derived.Deep.CutBlock
set_option linter.all false
set_option maxRecDepth 100000
set_option maxHeartbeats 8000000
namespace Go.Proofs.YtnphndlbfeagbaaGreat
open Go.Proofs.Tryz
open Go.RowKit
variable {L:Array Bool}{N:Nat->Option BN}{P:Program}{Q:Exit->Act->Wd->Prop}{R:Role->Prop}{S:Wd->Prop}{T t:TypeId}{V V':Nat->BF}{W w w' w0 wx:Wd}{a:Act}{args:Array Value}{asked found:Int}{b e f g ge h hi i id j k k' lo mb n pb room sb x xb:Nat}{l:List Oper}{last:Bool}{o' o1 o2:Own}{ops:Array Oper}{rk:Nat->Nat}{u v:Value}{zs:List Int}
section
def B7 {o:Oper}{r:List (Option Oper×Bool)}{f:FuncId}{R:Value->Wd->Prop}(I:o.guard=none)
 (O:(execOp a.eval o).run P w=.ok (.enter f args) w) (U:Calls P f args w λe w'=>∃v,e=.returned v/\S w'/\R v w')
 (h:∀v w',S w'->R v w'->AG P ops Q S last r (a.put o.dst v) w'):AG P ops Q S last ((some o,true)::r) a w:=by
 have H:Region.wanted o (yielded ops a.tmps)=true:=by simp[Region.wanted,I]
 unfold AG;simp only[H,Y1,Oper.wp,O,Oper.upon];exact U.mono λe w' ⟨v,h1,h2,h3⟩=>by subst h1;exact⟨.inr h2,h v w' h2 h3⟩
end
def PX (o:Own)(w:Wd)(H:Ac o w):RowR (AL o w.heap.size .entries) (w.alloc (.cells (madeCells #[Iv 0,Iv 0,Iv 0,Iv 0,Iv 0,.bool false] (4096*6)) 246)) .entries 246 6 (.slice (some (Av w.heap.size)) 4096 4096) 4096 ((List.replicate 4096 ent0).flatMap entV):=by
 refine⟨by rw[Ch entV 6 CM,Yp],.inr ⟨w.heap.size,4096,_,rfl,B4 _ _ _,Xv w _,Xs _,by decide,by rw[size_madeCells];exact Xs _,?_⟩⟩;rw[KY,XK];rw[Ch entV 6 CM,Yp];exact Xs _
def Lb (F:Phi)(n:Nat):Fv F (List.replicate n ent0):=by
 intro i hi;have:Bi (List.replicate n ent0) i=ent0:=by
  simp only[Bi,List.getD,aA];split<;>rfl
 rw[this]at hi;cases hi
def Lc (w:Wd):(Instr.makeSlice 194 (Iv 4096) (Iv 4096)).run prog w=.ok (.slice (some (Av w.heap.size)) 4096 4096) (w.alloc (.cells (madeCells #[Iv 0,Iv 0,Iv 0,Iv 0,Iv 0,.bool false] (4096*6)) 246)):=by
 have s:=KX;cases hi:prog.info? 246 with
 | none=>rw[hi]at s;cases s
 | some i=>
   rw[hi]at s;simp only[Y3,Yd,YN]at s;obtain⟨H,hs,hb⟩:=s;have:=run_make (P:=prog) w 194 246 i _ underlying194 hi H .i64 .i64 4096 4096 (by decide) (by decide) (by rw[hb];decide) (by decide);rw[hs]at this;exact this
structure CN (o:Own)(w:Wd)(mb ge cap:Nat)(l:List EntD)(asked found:Int)(F:Phi):Prop where
 own:o mb=some .memo
 blk:w.heap[mb]?=some (.cells #[Iv 4096,.slice (some (Av ge)) 4096 cap,Iv asked,Iv found] 196 (0,0))
 len:l.length=4096
 row:RowR o w .entries 246 6 (.slice (some (Av ge)) 4096 cap) 4096 (l.flatMap entV)
 ok:Fv F l
def CN.is {o:Own}{cap:Nat}{l:List EntD}{F:Phi}(h:CN o w mb ge cap l asked found F):Bc o w mb F:=⟨h.own,_,_,_,h.blk,.inr ⟨ge,cap,l,rfl,h.len,h.row,h.ok⟩⟩
def PY {o:Own}{F:Phi}(H:o mb=some .memo)(I:Ac o w)(U:w.heap[mb]?=some (.cells #[Iv 4096,.slice none 0 0,Iv asked,Iv found] 196 (0,0)))(W:Wd)
 (Y:W=(w.setCell (Aw mb 1) (.slice (some (Av w.heap.size)) 4096 4096)).alloc (.cells (madeCells #[Iv 0,Iv 0,Iv 0,Iv 0,Iv 0,.bool false] 24576) 246)):
 ∃o',CN o' W mb w.heap.size 4096 (List.replicate 4096 ent0) asked found F/\Chg (λr=>r=.memo\/r=.entries) o o' w W/\Ac o' W:=by
 have g3:mb<w.heap.size:=I _ _ H;obtain⟨w1,h1⟩:=Ex (w.setCell (Aw mb 1) (.slice (some (Av w.heap.size)) 4096 4096));have O:w1.heap.size=w.heap.size:=by rw[h1];simp[World.setCell]
 have g1:Chg (λr=>r=.memo\/r=.entries) o o w w1:=by rw[h1];exact Chg.setCell (R:=λr=>r=.memo\/r=.entries) (p:=Aw mb 1) (Chg.refl _ o w) H (.inl rfl) _
 have g0:Ac o w1:=I.mono g1.size;have g2:w1.heap[mb]?=some (.cells #[Iv 4096,.slice (some (Av w.heap.size)) 4096 4096,Iv asked,Iv found] 196 (0,0)):=by rw[h1];exact A2 U _
 have X:=PX o w1 g0;rw[<-h1]at Y;rw[O]at X;subst Y;refine⟨AL o w.heap.size .entries,⟨CX I (Xs _) H,?_,Yp,X,Lb F _⟩,?_,?_⟩
 . exact(X1 w1 _ (by omega)).trans g2
 . rw[<-O];exact g1.allocR g0 _ (.inr rfl)
 . rw[<-O];exact g0.allocR _ _
def CN.below {o:Own}{w w':Wd}{mb ge cap:Nat}{l:List EntD}{asked found:Int}{F:Phi}(h:CN o w mb ge cap l asked found F)(H:Ac o w)(hb:Bw w w'):CN o w' mb ge cap l asked found F:=
 ⟨h.own,(hb.block mb (H _ _ h.own)).trans h.blk,h.len,h.row.below H hb,h.ok⟩
def Ld {o:Own}{cap:Nat}{l:List EntD}{F:Phi}(h:CN o w mb ge cap l asked found F)(op:Int)(a b c:Nat):
 Cl 171 #[Pt mb,.agg #[Iv op,Iv a,Iv b,Iv c]] w.drew λx w'=>∃i,i<4096/\x=.returned (.pointer (some (Aw ge (i*6))))/\Below w.drew.heap.size w.drew w':=
 KR mb ge cap op a b c w.drew (cells4 (w:=w.drew) h.blk).2.1
def CN.stored {o:Own}{cap:Nat}{l:List EntD}{F:Phi}(h:CN o w mb ge cap l asked found F)(hk:k<4096){E:EntD}(O:F E.op E.a E.b E.c E.r):CN o (set6 w ge k E) mb ge cap (l.set k E) asked found F:=by
 have I:=h.row.owner;have g0:mb≠ge:=λe=>by subst e;have:=h.own;rw[I]at this;cases this
 refine⟨h.own,(PV g0).trans h.blk,by rw[XE];exact h.len,?_,PW h.ok k O⟩;have H:=h.row;rw[show 4096=l.length from h.len.symm]at H;have:=PU (m:=l.length) H (by rw[h.len];exact hk) E;rw[h.len]at this;exact this
def Le (w:Wd)(a:Option Addr)(n c:Nat):(binOp .eql 194 (.slice a n c) (.slice none 0 0)).run prog w=.ok (.bool a.isNone) w:=by
 have H:Op.maxDepth=9999+1:=rfl;have h:(Op.equal 194 (.slice a n c) (.slice none 0 0)).run prog w=.ok a.isNone w:=by
  unfold Op.equal;rw[H];unfold Op.equalIn;simp only[Yx,XZ underlying194,XY];cases a<;>simp
 simp only[binOp];simp[h]
abbrev YW:=@bodyPost_end
abbrev Y7:=@results_none
def Lf (o:Own)(mb:Nat)(F:Phi)(op:Int)(a b c r:Nat)(w:Wd)(h:Bc o w mb F)(m:Ac o w)(hF:F op a b c r):
 Cl 145 #[Pt mb,Iv op,Iv a,Iv b,Iv c,Iv r] w λx w'=>x=.returned (.tuple #[])/\∃o',Bc o' w' mb F/\Chg (λr=>r=.memo\/r=.entries) o o' w w'/\Ac o' w':=by
 obtain⟨ve,asked,found,T,hv⟩:=h.ex;obtain⟨c0,c1,c2,c3,f0⟩:=cells4 T;have d:mb<w.heap.size:=Ad c0;have gB:=Hd m;have A:=Hd T;have B:=Hd h.own;have HV:=Hd hv;have HF:=Hd hF;have gA:=Hd Lc;clear h m T hv hF;rcases HV.o with rfl|⟨ge,cap,l,rfl,hl,gr,gw⟩
 ·have gC:=Lc w;have V:(binOp .eql 194 (.slice none 0 0) (.slice none 0 0)).run prog w=.ok (.bool true) w:=Le w none 0 0;have HM:=Hd (PY (F:=F) B.o gB.o A.o)
  go_enter func145,ntmps145
  go_upto_region 3 with fail;obtain⟨W1,g5⟩:=Ex ((w.setCell (Aw mb 1) (.slice (some (Av w.heap.size)) 4096 4096)).alloc (.cells (madeCells #[Iv 0,Iv 0,Iv 0,Iv 0,Iv 0,.bool false] 24576) 246));rw[<-g5];obtain⟨o1,gx,gz,gy⟩:=HM.o W1 g5;have g6:=Hd gx;have O:=Hd gz;have g7:=Hd gy;clear gx gz gy g5 HM gC V c0 c1 c2 c3 f0 d HV A B gA;obtain⟨d0,d1,d2,d3,g0⟩:=cells4 g6.o.blk;have lmb1:mb<W1.heap.size:=Ad d0;go_upto_region 4 with fail;obtain⟨bx,g9⟩:=Ex W1.heap.size;obtain⟨W2,g4⟩:=Ex (W1.alloc (.cells #[Iv op,Iv a,Iv b,Iv c] 242));have g3:Bw W1 W2:=by rw[g4];exact Ag _ _
  have g8:W2.heap[bx]?=some (.cells #[Iv op,Iv a,Iv b,Iv c] 242 (0,0)):=by rw[g4,g9];exact Xv W1 _
  rw[<-g4,<-g9];have z:=g6.o.below g7.o g3;have gk:=O.o.trans (Chg.of_below g3 (λr=>r=.memo\/r=.entries) _);have u:=g7.o.mono g3.size;have p:=Hd z;have S:=Hd gk;have n:=Hd u;have go:=Hd g8;clear z gk u g3 g4 g9 g6 O g7 d0 d1 d2 d3 g0 lmb1;obtain⟨g,k1,k2,f,fk⟩:=cells4 g8;clear g8;refine AJ (λW:Wd=>W.cell? (Av bx)=some (Iv op)/\W.cell? (Aw bx 1)=some (Iv a)/\W.cell? (Aw bx 2)=some (Iv b)/\W.cell? (Aw bx 3)=some (Iv c)) true 7
   [(0,false),(1,false),(3,false),(4,false),(5,false),(2,true),(6,false),(7,true)] (by kernel_rfl) (by kernel_rfl) ⟨g,k1,k2,f⟩ ?_
  simp only[planned,AI]
  iterate 5
   refine A0 rfl ?_;apply Exists.intro;refine⟨λw' I=>?_,?_⟩
   . obtain⟨J,G,D,C⟩:=I;go_simp;rfl
   simp only[Ab]
  refine B7 (R:=λv w'=>∃i,i<4096/\v=.pointer (some (Aw w.heap.size (i*6)))/\Below W2.drew.heap.size W2.drew w') rfl (by go_simp) ((Ld p.o op a b c).mono (λe w' Q=>?_)) ?_
  . obtain⟨i,hi,rfl,hb⟩:=Q;obtain⟨N,M,L,K,_⟩:=cells4 ((hb.block bx (Xt.1 go.o).1).trans go.o);exact⟨_,rfl,⟨N,M,L,K⟩,i,hi,rfl,hb⟩
  rintro v H-⟨i,hi,rfl,g2⟩;simp only[Ab];have g2:Bw W2 H:=(An W2 1).trans g2;have g1:=p.o.below n.o g2;have s:=S.o.trans (Chg.of_below g2 (λr=>r=.memo\/r=.entries) _);have y:=n.o.mono g2.size;obtain⟨n0,Z,Y,X,U,n5⟩:=IJ g1.row g1.len hi
  iterate 1
   refine A0 rfl ?_;apply Exists.intro;refine⟨λw' I=>?_,?_⟩
   . obtain⟨J,G,D,C⟩:=I;go_simp;rfl
   simp only[Ab]
  refine EB rfl rfl (KZ (λj=>by have:=g1.row.frozen j;exact this) n0 Z Y X U n5 ⟨op,a,b,c,r,true⟩) ?_;simp only[Ab];have gc:=(g1.stored hi (E:=⟨op,a,b,c,r,true⟩) HF.o).is;have t:=La (k:=i) (E:=⟨op,a,b,c,r,true⟩) s g1.row.owner (.inr rfl);have gf:Ac o1 (set6 H w.heap.size i ⟨op,a,b,c,r,true⟩):=y.mono (by simp[set6,World.setCell]);obtain⟨WF,q⟩:=Ex (set6 H w.heap.size i ⟨op,a,b,c,r,true⟩);rw[<-q]at gc t gf⊢;clear n0 Z Y X U n5 g1 s y g2 g k1 k2 f fk q;go_wp2_with fail;refine YW (Y7 rfl _ _ _) rfl ?_;exact⟨rfl,o1,gc,t,gf⟩
 ·have g6:Hq (CN o w mb ge cap l asked found F):=(Hd ⟨B.o,A.o,hl,gr,gw⟩);have V:(binOp .eql 194 (.slice (some (Av ge)) 4096 cap) (.slice none 0 0)).run prog w=.ok (.bool false) w:=Le w _ _ _;clear hl gr gw
  go_enter func145,ntmps145
  go_upto_region 3 with fail;obtain⟨W1,g5⟩:=Ex w;have O:Hq (Chg (λr=>r=.memo\/r=.entries) o o w W1):=Hd (g5 ▸ Chg.refl _ _ _);have g7:Hq (Ac o W1):=Hd (g5 ▸ gB.o);rw[<-g5]at g6;rw[<-g5];obtain⟨o1,gt⟩:=Ex o;rw[<-gt]at g6 g7;have O:Hq (Chg (λr=>r=.memo\/r=.entries) o o1 w W1):=by rw[gt];exact O
  clear g5 gt V c0 c1 c2 c3 f0 d HV A B gA;obtain⟨d0,d1,d2,d3,g0⟩:=cells4 g6.o.blk;have lmb1:mb<W1.heap.size:=Ad d0;go_upto_region 4 with fail;obtain⟨bx,g9⟩:=Ex W1.heap.size;obtain⟨W2,g4⟩:=Ex (W1.alloc (.cells #[Iv op,Iv a,Iv b,Iv c] 242));have g3:Bw W1 W2:=by rw[g4];exact Ag _ _
  have g8:W2.heap[bx]?=some (.cells #[Iv op,Iv a,Iv b,Iv c] 242 (0,0)):=by rw[g4,g9];exact Xv W1 _
  rw[<-g4,<-g9];have z:=g6.o.below g7.o g3;have gk:=O.o.trans (Chg.of_below g3 (λr=>r=.memo\/r=.entries) _);have u:=g7.o.mono g3.size;have p:=Hd z;have S:=Hd gk;have n:=Hd u;have go:=Hd g8;clear z gk u g3 g4 g9 g6 O g7 d0 d1 d2 d3 g0 lmb1;obtain⟨g,k1,k2,f,fk⟩:=cells4 g8;clear g8;refine AJ (λW:Wd=>W.cell? (Av bx)=some (Iv op)/\W.cell? (Aw bx 1)=some (Iv a)/\W.cell? (Aw bx 2)=some (Iv b)/\W.cell? (Aw bx 3)=some (Iv c)) true 7
   [(0,false),(1,false),(3,false),(4,false),(5,false),(2,true),(6,false),(7,true)] (by kernel_rfl) (by kernel_rfl) ⟨g,k1,k2,f⟩ ?_
  simp only[planned,AI]
  iterate 5
   refine A0 rfl ?_;apply Exists.intro;refine⟨λw' I=>?_,?_⟩
   . obtain⟨J,G,D,C⟩:=I;go_simp;rfl
   simp only[Ab]
  refine B7 (R:=λv w'=>∃i,i<4096/\v=.pointer (some (Aw ge (i*6)))/\Below W2.drew.heap.size W2.drew w') rfl (by go_simp) ((Ld p.o op a b c).mono (λe w' Q=>?_)) ?_
  . obtain⟨i,hi,rfl,hb⟩:=Q;obtain⟨N,M,L,K,_⟩:=cells4 ((hb.block bx (Xt.1 go.o).1).trans go.o);exact⟨_,rfl,⟨N,M,L,K⟩,i,hi,rfl,hb⟩
  rintro v H-⟨i,hi,rfl,g2⟩;simp only[Ab];have g2:Bw W2 H:=(An W2 1).trans g2;have g1:=p.o.below n.o g2;have s:=S.o.trans (Chg.of_below g2 (λr=>r=.memo\/r=.entries) _);have y:=n.o.mono g2.size;obtain⟨n0,Z,Y,X,U,n5⟩:=IJ g1.row g1.len hi
  iterate 1
   refine A0 rfl ?_;apply Exists.intro;refine⟨λw' I=>?_,?_⟩
   . obtain⟨J,G,D,C⟩:=I;go_simp;rfl
   simp only[Ab]
  refine EB rfl rfl (KZ (λj=>by have:=g1.row.frozen j;exact this) n0 Z Y X U n5 ⟨op,a,b,c,r,true⟩) ?_;simp only[Ab];have gc:=(g1.stored hi (E:=⟨op,a,b,c,r,true⟩) HF.o).is;have t:=La (k:=i) (E:=⟨op,a,b,c,r,true⟩) s g1.row.owner (.inr rfl);have gf:Ac o1 (set6 H ge i ⟨op,a,b,c,r,true⟩):=y.mono (by simp[set6,World.setCell]);obtain⟨WF,q⟩:=Ex (set6 H ge i ⟨op,a,b,c,r,true⟩);rw[<-q]at gc t gf⊢;clear n0 Z Y X U n5 g1 s y g2 g k1 k2 f fk q;go_wp2_with fail;refine YW (Y7 rfl _ _ _) rfl ?_;exact⟨rfl,o1,gc,t,gf⟩
def RowR.setCells {o:Own}{r:Role}{e:TypeId}{size n g m cap:Nat}(H:List Value):∀(w:Wd) (k:Nat) (xs:List Value),RowR o w r e size (.slice (some (Av g)) m cap) n xs->k+H.length<=xs.length ->
 RowR o (w.setCells g k H) r e size (.slice (some (Av g)) m cap) n (xs.take k++H++xs.drop (k+H.length)):=by
 induction H with
 | nil=>intro w k xs h _;simpa [World.setCells]using h
 | cons y H I=>
   intro w k xs h hl;simp only[XL]at hl;have h1:=I (w.setCell (Aw g k) y) (k+1) (xs.set k y) (h.stored k y) (by simp;omega);have e:(xs.set k y).take (k+1)++H++(xs.set k y).drop (k+1+H.length)=xs.take k++(y::H)++xs.drop (k+(y::H).length):=by
    have e1:(xs.set k y).take (k+1)=xs.take k++[y]:=by
     rw[List.set_eq_take_append_cons_drop,Xx (by omega),List.take_append];simp;have:min k xs.length=k:=by omega
     rw[this];simp
     exact XK (by simp;omega)
    have e2:(xs.set k y).drop (k+1+H.length)=xs.drop (k+1+H.length):=by
     rw[List.drop_set];rw[Xx (by omega)]
    rw[e1,e2];simp[Zq,Nat.add_comm 1 H.length]
   rw[e]at h1;exact h1
def Chg.setCells {R:Role->Prop}{o o':Own}{w0:Wd}{g:Nat}{r:Role}(O:o' g=some r)(U:R r)(H:List Value):∀(w:Wd) (k:Nat),Chg R o o' w0 w->Chg R o o' w0 (w.setCells g k H):=by
 induction H with
 | nil=>intro w k h;exact h
 | cons y H I=>intro w k h;exact I _ _ (h.setCell (p:=⟨g,k,none⟩) O U y)
def PZ (hb:b≠g)(H:List Value):∀(w:Wd) (k:Nat),(w.setCells g k H).heap[b]?=w.heap[b]?:=by
 induction H with
 | nil=>intro w k;rfl
 | cons y H I=>intro w k;rw[World.setCells,I];exact Az (p:=⟨g,k,none⟩) hb y
def Qa (w:Wd):(zeroValue 246).run prog w=.ok (.agg #[Iv 0,Iv 0,Iv 0,Iv 0,Iv 0,.bool false]) w:=by
 have s:=KX;cases hi:prog.info? 246 with
 | none=>rw[hi]at s;cases s
 | some i=>
   rw[hi]at s;simp only[Y3,Yd,YN]at s;obtain⟨H,hs,hb⟩:=s;simp[zeroValue,typeInfo,hi,H]
def Qb (n:Nat):(Builtin.zeroCells (Value.cells (.agg #[Iv 0,Iv 0,Iv 0,Iv 0,Iv 0,.bool false])) n).toList=(List.replicate n ent0).flatMap entV:=KY n
def Qc (w:Wd)(O:TypeId)(ge cap n:Nat)(X:∀j,j<(n+1)*6->(w.cell? (Aw ge j)).isSome=true)(U:∀j,w.frozen? (Aw ge j)=false):
 (Builtin.clear_ #[194] O #[.slice (some (Av ge)) (n+1) cap]).run prog w=.ok (.tuple #[]) (w.setCells ge 0 ((List.replicate (n+1) ent0).flatMap entV)):=by
 have g0:((List.replicate (n+1) ent0).flatMap entV).length=(n+1)*6:=by rw[Ch entV 6 CM,Yp]
 have g1:=run_storeCells_cells (P:=prog) ge 0 ((List.replicate (n+1) ent0).flatMap entV) 0 w (λj I=>by rw[g0]at I;simpa using X j I) (λj _=>U _) (λv H=>by
  rw[List.mem_flatMap]at H;obtain⟨E,_,H⟩:=H;simp only[entV,Yy,ZQ,or_false]at H;rcases H with rfl|rfl|rfl|rfl|rfl|rfl<;>rfl)
 unfold Builtin.clear_;simp only[List.getElem?_toArray,List.getElem?_cons_zero,Yx,XZ underlying194,XY,Qa,Qb,g1];rfl
def Qd (w:Wd)(H:TypeId)(ge cap:Nat)(O:∀j,j<4096*6->(w.cell? (Aw ge j)).isSome=true)(I:∀j,w.frozen? (Aw ge j)=false):
 (Builtin.clear_ #[194] H #[.slice (some (Av ge)) 4096 cap]).run prog w=.ok (.tuple #[]) (w.setCells ge 0 ((List.replicate 4096 ent0).flatMap entV)):=Qc w H ge cap 4095 O I
def Qe (w:Wd)(H:TypeId):(Builtin.clear_ #[194] H #[.slice none 0 0]).run prog w=.ok (.tuple #[]) w:=by
 unfold Builtin.clear_;simp only[List.getElem?_toArray,List.getElem?_cons_zero,Yx,XZ underlying194,XY];rfl
abbrev Y5:=@List.append_nil
def Qf (o:Own)(mb:Nat)(F G:Phi)(w:Wd)(h:Bc o w mb F)(H:Ac o w):
 Cl 134 #[Pt mb] w λx w'=>x=.returned (.tuple #[])/\Bc o w' mb G/\Chg (· = .entries) o o w w'/\Ac o w':=by
 obtain⟨c,asked,found,g3,a⟩:=h.ex;have g1:=h.own;obtain⟨f,c1,c2,d,f0⟩:=cells4 g3;rcases a with rfl|⟨ge,cap,l,rfl,hl,g0,g8⟩
 ·have Y:=Qe w 0;have X:=Hd (show Bc o w mb G from⟨h.own,_,_,_,g3,.inl rfl⟩);have U:=Hd H;clear h H g3 g1
  go_enter func134,ntmps134
  go_wp2_with fail;refine YW (Y7 rfl _ _ _) rfl ?_;exact⟨rfl,X.o,Chg.refl _ _ _,U.o⟩
 ·have O:=g0.owner;have g7:mb≠ge:=λe=>by subst e;rw[O]at g1;cases g1
  have g2:(l.flatMap entV).length=4096*6:=by rw[Ch entV 6 CM,hl]
  have Y:=Qd w 0 ge cap (λj Z=>by rw[g0.cell j (by rw[g2];exact Z),Xy (by rw[g2];exact Z)];rfl) g0.frozen;obtain⟨W,I⟩:=Ex (w.setCells ge 0 ((List.replicate 4096 ent0).flatMap entV));rw[<-I]at Y;have g5:((List.replicate 4096 ent0).flatMap entV).length=4096*6:=by rw[Ch entV 6 CM,Yp]
  have g4:RowR o W .entries 246 6 (.slice (some (Av ge)) 4096 cap) 4096 ((List.replicate 4096 ent0).flatMap entV):=by
   have:=RowR.setCells ((List.replicate 4096 ent0).flatMap entV) w 0 _ g0 (by rw[g5,g2];omega);rw[aF,Yv,XO,YZ (by rw[g5,g2];exact Xs _),Y5,<-I]at this;exact this
  have g6:Chg (· = .entries) o o w W:=by rw[I];exact Chg.setCells (R:=(· = .entries)) O rfl _ _ _ (Chg.refl _ _ _)
  have X:=Hd (show Bc o W mb G from⟨g1,_,_,_,(by rw[I];exact(PZ g7 _ _ _).trans g3),.inr ⟨ge,cap,_,rfl,Yp,g4,Lb G _⟩⟩);have U:=Hd (H.mono g6.size);have b:=Hd g6;clear h H g3 g1 hl g0 g8 O g2 g5 g4 g6 I g7
  go_enter func134,ntmps134
  go_wp2_with fail;refine YW (Y7 rfl _ _ _) rfl ?_;exact⟨rfl,X.o,b.o,U.o⟩
def Qg (o:Own)(F:Phi)(w:Wd)(H:Ac o w):
 Cl 84 #[Iv 4096] w λx w'=>∃mb o',x=.returned (Pt mb)/\Bc o' w' mb F/\Chg (· = .memo) o o' w w'/\Ac o' w'/\w.heap.size<=mb:=by
 have I:=Hd H;clear H
 go_enter func84,ntmps84
 go_wp2;go_ret;exact⟨w.heap.size,AL o w.heap.size .memo,rfl,⟨B4 _ _ _,_,_,_,Xv w _,.inl rfl⟩,(Chg.refl _ o w).allocR I.o _ rfl,I.o.allocR _ _,Xs _⟩
def Ek (w:Wd)(T:TypeId):(Instr.makeMap T none).run P w=.ok (.map (some w.heap.size)) (w.alloc (.map #[] 0)):=rfl
def Qh (o:Own)(v:Nat)(w:Wd)(H:Ac o w):
 Cl 127 #[] w λx w'=>∃t o',x=.returned (Pt t)/\AS o' w' v t (λ_=>none)/\Chg (λr=>r=.tab v\/r=.tmap v) o o' w w'/\Ac o' w'/\w.heap.size<=t:=by
 have O:=Hd H;have U:=Ek (P:=prog) w 220;clear H
 go_enter func127,ntmps127
 go_wp2;go_ret;have g0:=O.o.allocR (.map #[] 0) (.tmap v);have g4:=((Chg.refl (λr=>r=.tab v\/r=.tmap v) o w).allocR (r:=.tmap v) O.o (.map #[] 0) (.inr rfl));have g2:=g0.allocR (.cells #[.map (some w.heap.size)] 222) (.tab v);have g3:=g4.allocR (r:=.tab v) g0 (.cells #[.map (some w.heap.size)] 222) (.inl rfl);have I:(w.alloc (.map #[] 0)).heap.size=w.heap.size+1:=by simp
 have g1:w.heap.size<(w.alloc (.map #[] 0)).heap.size:=by rw[I];omega
 refine⟨w.heap.size+1,_,rfl,⟨by rw[<-I];exact B4 _ _ _,w.heap.size,[],by rw[<-I];exact Xv _ _,CX g0 (Xs _) (B4 _ _ _),⟨⟨#[],0,(X1 _ _ g1).trans (Xv w _),rfl,by simp,by simp⟩,by simp⟩,λk=>rfl⟩,g3,g2,by omega⟩
section
variable {m:Nat}
structure Left (P:Program)(l:List Oper)(Q:Exit->Act->Wd->Prop)(S:Wd->Prop)(m f:Nat)(L:Array Bool)(a:Act)(w:Wd):Prop where
 goes:Closed l.toArray L->S w->Eg P l.toArray (NP Q) S m f L a w
theorem IK (S:Wd->Prop)(m:Nat)(H:P.follows .mixedOrders=true)(I:S w.drew)
 (h:Left P l Q S m l.length (Array.replicate l.toArray.size false) a w.drew):(Code.region id l.toArray true).wp P Q a w:=
 KM (wp_region_any H (Gm _ _ _ _ (h.goes (Gl _) I)))
def Qi (i:Nat)(o:Oper)(v:Value)(hi:l[i]?=some o)
 (O:(Region.noSelect l.toArray&&(Region.ready .any l.toArray L).contains i&&Region.free .any l.toArray L i&&(decide (l.toArray.size<=m)||reaches l.toArray l.toArray.size i m))=true)
 (U:∀w,S w->YieldsIf P l.toArray S o v a) (h:Left P l Q S m f (L.setIfInBounds i true) (a.put o.dst v) w):Left P l Q S m (f+1) L a w:=by
 refine⟨λI H=>?_⟩;simp only[XH]at O;obtain⟨⟨⟨hs,X⟩,Z⟩,Y⟩:=O;have g1:l.toArray[i]?=some o:=by simpa using hi
 have g0:i∈Region.ready .any l.toArray L:=by simpa using X
 exact I3 g1 hs (λ_ _ _ _ _ h=>h) Y f L a w I (aU g1 Z) g0 (U w H) H (h.goes (I.set g0) H)
def Cs (i:Nat){o:Oper}(hi:l[i]?=some o)(H:o.guard=none)
 (I:(Region.noSelect l.toArray&&(Region.ready .any l.toArray L).contains i&&Region.free .any l.toArray L i&&(decide (l.toArray.size<=m)||reaches l.toArray l.toArray.size i m))=true)
 (h:∃v,(∀w,S w->(execOp a.eval o).run P w=.ok (.value v) w)/\Left P l Q S m f (L.setIfInBounds i true) (a.put o.dst v) w):Left P l Q S m (f+1) L a w:=by
 obtain⟨v,h1,h2⟩:=h;exact Qi i o v hi I (λw _=>.inl ⟨by simp[Region.wanted,H],h1⟩) h2
def DJ (is:List Nat)(H:(decide (Region.ready .any l.toArray L=is) && !is.isEmpty)=true)
 (h:∀i∈is,S w->∀o,l[i]?=some o->Region.wanted o (yielded l.toArray a.tmps)=true/\o.wp P a w (λO w'=>S w'/\Left P l Q S m f (L.setIfInBounds i true) O w') (NP Q)):Left P l Q S m (f+1) L a w:=by
 refine⟨λX Y=>?_⟩;simp only[XH,Yk]at H;obtain⟨H,g1⟩:=H;refine⟨λh0=>(by rw[h0]at H;subst H;simp at g1),λi hi=>?_⟩;have g2:i∈is:=by rw[<-H];exact hi
 obtain⟨_,o,I,_⟩:=ZZ.1 hi;obtain⟨U,g0⟩:=h i g2 Y o (by simpa using I);unfold wpOp;rw[I];simp only[U,Y1];left;refine Oper.wp_mono ?_ g0;intro O w' ⟨h1,h2⟩;exact⟨.inr h1,h2.goes (X.set hi) h1⟩
def Gy (H:(Region.ready .any l.toArray L).isEmpty=true)(h:Q .normal a w):Left P l Q S m 0 L a w:=
 ⟨λ_ _=>⟨by simpa [ZR]using H,h⟩⟩
def Dc {o:Oper}{K:Act->Wd->Prop}(H:(execOp a.eval o).run P w=.ok (.value v) w')(h:K (a.put o.dst v) w'):o.wp P a w K Q:=by
 unfold Oper.wp;rw[H];exact h
end
def pool0 (room:Nat):Ae:=⟨room,[rn0],[false],[],0⟩
abbrev Bs:Obj:=.cells #[Iv 0,Iv 0,Iv 0,Iv 0,Iv 0] 203
abbrev Bt:Obj:=.cells #[.bool false] 4
def Lg {o:Own}{gs gt:Nat}(Y:room<=1048576)(U:o pb=some .pool)(O:o gs=some .slots)(I:o gt=some .taken)
 (H:w.heap[pb]?=some (.cells #[Iv room,.slice (some (Av gs)) 1 1,.slice (some (Av gt)) 1 1,.slice none 0 0,Iv 0] 219 (0,0)))
 (hs:w.heap[gs]?=some Bs) (X:w.heap[gt]?=some Bt):Aq o w pb (pool0 room):=by
 refine⟨U,⟨_,_,_,H,⟨rfl,.inr ⟨gs,1,_,rfl,O,hs,Xs _,by decide,by decide,rfl⟩⟩,⟨rfl,.inr ⟨gt,1,_,rfl,I,X,Xs _,by decide,by decide,rfl⟩⟩,RowR.nil _ _ _ _ _⟩,rfl,Y,by simp[pool0],rfl,by simp[pool0],?_,rfl,by simp[pool0],by simp[pool0],?_⟩
 ·intro i hi;have:(pool0 room).tk i=false:=by
   cases i<;>rfl
  rw[this]at hi;cases hi
 . simp[pool0,Ah,Ae.tk]
def Qj:madeCells (Value.cells (.agg #[Iv 0,Iv 0,Iv 0,Iv 0,Iv 0])) (Int.toNat 1*5)=#[Iv 0,Iv 0,Iv 0,Iv 0,Iv 0]:=by kernel_rfl
def Qk:madeCells (Value.cells (.bool false)) (Int.toNat 1*1)=#[.bool false]:=by kernel_rfl
def Ql (w:Wd):(Instr.makeSlice 217 (Iv 1) (Iv 1)).run prog w=.ok (.slice (some (Av w.heap.size)) 1 1) (w.alloc Bs):=by
 have s:=Gv;cases hi:prog.info? 203 with
 | none=>rw[hi]at s;cases s
 | some i=>
   rw[hi]at s;simp only[Y3,Yd,YN]at s;obtain⟨H,hs,hb⟩:=s;have:=run_make (P:=prog) w 217 203 i _ underlying217 hi H .i64 .i64 1 1 (by decide) (by decide) (by rw[hb];decide) (by decide);rw[hs,Qj]at this;exact this
def Qm (w:Wd):(Instr.makeSlice 28 (Iv 1) (Iv 1)).run prog w=.ok (.slice (some (Av w.heap.size)) 1 1) (w.alloc Bt):=by
 have s:=I6;cases hi:prog.info? 4 with
 | none=>rw[hi]at s;cases s
 | some i=>
   rw[hi]at s;simp only[Y3,Yd,YN]at s;obtain⟨H,hs,hb⟩:=s;have:=run_make (P:=prog) w 28 4 i _ underlying28 hi H .i64 .i64 1 1 (by decide) (by decide) (by rw[hb];decide) (by decide);rw[hs,Qk]at this;exact this
abbrev NewR (r:Role):Prop:=r=.pool\/r=.slots\/r=.taken
def made2 {o:Own}(H:Ac o w)(A B C:Obj)(U O:Role)(h1:NewR U)(h2:NewR O):
 ∃o',o' w.heap.size=some U/\o' (w.heap.size+1)=some O/\o' (w.heap.size+2)=some .pool/\Chg NewR o o' w (((w.alloc A).alloc B).alloc C)/\Ac o' (((w.alloc A).alloc B).alloc C) /\
  (((w.alloc A).alloc B).alloc C).heap[w.heap.size]?=some A/\(((w.alloc A).alloc B).alloc C).heap[w.heap.size+1]?=some B/\(((w.alloc A).alloc B).alloc C).heap[w.heap.size+2]?=some C:=by
 have Y:(w.alloc A).heap.size=w.heap.size+1:=by simp
 have z2:((w.alloc A).alloc B).heap.size=w.heap.size+2:=by simp
 have X:=H.allocR A U;have c1:=(Chg.refl NewR o w).allocR H A h1;have I:=X.allocR B O;have c2:=c1.allocR X B h2;have Z:=I.allocR C .pool;have a:=c2.allocR I C (show NewR .pool from .inl rfl);refine⟨_,?_,?_,?_,a,Z,?_,?_,?_⟩
 . exact CX I (Xs _) (CX X (Xs _) (B4 _ _ _))
 . rw[<-Y];exact CX I (Xs _) (B4 _ _ _)
 . rw[<-z2];exact B4 _ _ _
 . rw[X1 _ _ (by omega),X1 _ _ (by omega)];exact Xv w A
 . rw[X1 _ _ (by omega),<-Y];exact Xv _ B
 . rw[<-z2];exact Xv _ C
def Qn (o:Own)(room:Nat)(w:Wd)(g:Ac o w)(h1:1<=room)(h2:room<=1048576):
 Cl 125 #[Iv room] w λx w'=>∃pb o',x=.returned (.tuple #[Pt pb,Iv 0])/\Aq o' w' pb (pool0 room)/\Chg NewR o o' w w'/\Ac o' w'/\w.heap.size<=pb:=by
 have k:=Hd g;have b1:(1:Int)<=room:=by omega
 have b2:(room:Int)<=1048576:=by omega
 have g2:=Hd Ql;have g1:=Hd Qm;clear g
 go_enter func125,ntmps125
 go_upto_region 3 with fail;refine IK (λW=>True) 7 (by kernel_rfl) trivial ?_;refine Cs 0 rfl rfl (by kernel_rfl) ?_;apply Exists.intro;refine⟨λw' X=>?_,?_⟩
 . go_simp;rfl
 simp only[Ab];refine DJ [1,2] (by kernel_rfl) (λi hi h o H=>?_);simp only[CA]at hi;rcases hi with rfl|rfl
 ·simp only[Cx]at H;subst H;refine⟨rfl,?_⟩;have U:=g2.o w.drew;rw[show w.drew.heap.size=w.heap.size from rfl]at U;refine Dc (v:=.slice (some (Av w.heap.size)) 1 1) (w':=w.drew.alloc Bs) (by go_simp) ⟨trivial,?_⟩;simp only[Ab];refine DJ [2] (by kernel_rfl) (λi hi h o H=>?_);simp only[CA]at hi;subst hi;simp only[Cx]at H;subst H;refine⟨rfl,?_⟩;have U:(Instr.makeSlice 28 (Iv 1) (Iv 1)).run prog (w.alloc Bs).drew=.ok (.slice (some (Av (w.heap.size+1))) 1 1) ((w.alloc Bs).alloc Bt).drew:=by
   have:=g1.o (w.alloc Bs).drew;rw[show(w.alloc Bs).drew.heap.size=w.heap.size+1 from X3 w _]at this;exact this
  refine Dc (v:=.slice (some (Av (w.heap.size+1))) 1 1) (w':=((w.alloc Bs).alloc Bt).drew) (by go_simp) ⟨trivial,?_⟩;simp only[Ab];refine Cs 3 rfl rfl (by kernel_rfl) ?_;apply Exists.intro;refine⟨λw' X=>?_,?_⟩
  . go_simp;rfl
  simp only[Ab];refine DJ [4] (by kernel_rfl) (λi hi h o H=>?_);simp only[CA]at hi;subst hi;simp only[Cx]at H;subst H;refine⟨rfl,?_⟩;have j:((w.alloc Bs).alloc Bt).heap.size=w.heap.size+2:=by simp
  refine Dc (v:=Pt (w.heap.size+2)) (w':=(((w.alloc Bs).alloc Bt).alloc (.cells #[Iv room,.slice (some (Av w.heap.size)) 1 1,.slice (some ⟨(w.heap.size+1),0,none⟩) 1 1,.slice none 0 0,Iv 0] 219)).drew) (by go_simp) ⟨trivial,?_⟩;simp only[Ab];refine Cs 5 rfl rfl (by kernel_rfl) ?_;apply Exists.intro;refine⟨λw' X=>?_,?_⟩
  . go_simp;rfl
  simp only[Ab];refine Cs 6 rfl rfl (by kernel_rfl) ?_;apply Exists.intro;refine⟨λw' X=>?_,?_⟩
  . go_simp;rfl
  simp only[Ab];refine Gy (by kernel_rfl) ?_;obtain⟨o',f,e,d,c,b,a,Z,Y⟩:=made2 k.o Bs Bt (.cells #[Iv room,.slice (some (Av w.heap.size)) 1 1,.slice (some ⟨(w.heap.size+1),0,none⟩) 1 1,.slice none 0 0,Iv 0] 219) .slots .taken (.inr (.inl rfl)) (.inr (.inr rfl));have g0:Aq o' (((w.alloc Bs).alloc Bt).alloc (.cells #[Iv room,.slice (some (Av w.heap.size)) 1 1,.slice (some ⟨(w.heap.size+1),0,none⟩) 1 1,.slice none 0 0,Iv 0] 219)).drew (w.heap.size+2) (pool0 room):=Lg h2 d f e Y a Z;have O:=c.drew;have I:Ac o' (((w.alloc Bs).alloc Bt).alloc (.cells #[Iv room,.slice (some (Av w.heap.size)) 1 1,.slice (some ⟨(w.heap.size+1),0,none⟩) 1 1,.slice none 0 0,Iv 0] 219)).drew:=b;clear f e d c b a Z Y U j;go_wp2
  go_ret2
  exact⟨w.heap.size+2,o',rfl,g0,O,I,by omega⟩
 ·simp only[Cx]at H;subst H;refine⟨rfl,?_⟩;have U:=g1.o w.drew;rw[show w.drew.heap.size=w.heap.size from rfl]at U;refine Dc (v:=.slice (some (Av w.heap.size)) 1 1) (w':=w.drew.alloc Bt) (by go_simp) ⟨trivial,?_⟩;simp only[Ab];refine DJ [1] (by kernel_rfl) (λi hi h o H=>?_);simp only[CA]at hi;subst hi;simp only[Cx]at H;subst H;refine⟨rfl,?_⟩;have U:(Instr.makeSlice 217 (Iv 1) (Iv 1)).run prog (w.alloc Bt).drew=.ok (.slice (some (Av (w.heap.size+1))) 1 1) ((w.alloc Bt).alloc Bs).drew:=by
   have:=g2.o (w.alloc Bt).drew;rw[show(w.alloc Bt).drew.heap.size=w.heap.size+1 from X3 w _]at this;exact this
  refine Dc (v:=.slice (some (Av (w.heap.size+1))) 1 1) (w':=((w.alloc Bt).alloc Bs).drew) (by go_simp) ⟨trivial,?_⟩;simp only[Ab];refine Cs 3 rfl rfl (by kernel_rfl) ?_;apply Exists.intro;refine⟨λw' X=>?_,?_⟩
  . go_simp;rfl
  simp only[Ab];refine DJ [4] (by kernel_rfl) (λi hi h o H=>?_);simp only[CA]at hi;subst hi;simp only[Cx]at H;subst H;refine⟨rfl,?_⟩;have j:((w.alloc Bt).alloc Bs).heap.size=w.heap.size+2:=by simp
  refine Dc (v:=Pt (w.heap.size+2)) (w':=(((w.alloc Bt).alloc Bs).alloc (.cells #[Iv room,.slice (some ⟨(w.heap.size+1),0,none⟩) 1 1,.slice (some (Av w.heap.size)) 1 1,.slice none 0 0,Iv 0] 219)).drew) (by go_simp) ⟨trivial,?_⟩;simp only[Ab];refine Cs 5 rfl rfl (by kernel_rfl) ?_;apply Exists.intro;refine⟨λw' X=>?_,?_⟩
  . go_simp;rfl
  simp only[Ab];refine Cs 6 rfl rfl (by kernel_rfl) ?_;apply Exists.intro;refine⟨λw' X=>?_,?_⟩
  . go_simp;rfl
  simp only[Ab];refine Gy (by kernel_rfl) ?_;obtain⟨o',f,e,d,c,b,a,Z,Y⟩:=made2 k.o Bt Bs (.cells #[Iv room,.slice (some ⟨(w.heap.size+1),0,none⟩) 1 1,.slice (some (Av w.heap.size)) 1 1,.slice none 0 0,Iv 0] 219) .taken .slots (.inr (.inr rfl)) (.inr (.inl rfl));have g0:Aq o' (((w.alloc Bt).alloc Bs).alloc (.cells #[Iv room,.slice (some ⟨(w.heap.size+1),0,none⟩) 1 1,.slice (some (Av w.heap.size)) 1 1,.slice none 0 0,Iv 0] 219)).drew (w.heap.size+2) (pool0 room):=Lg h2 d e f Y Z a;have O:=c.drew;have I:Ac o' (((w.alloc Bt).alloc Bs).alloc (.cells #[Iv room,.slice (some ⟨(w.heap.size+1),0,none⟩) 1 1,.slice (some (Av w.heap.size)) 1 1,.slice none 0 0,Iv 0] 219)).drew:=b;clear f e d c b a Z Y U j;go_wp2
  go_ret2
  exact⟨w.heap.size+2,o',rfl,g0,O,I,by omega⟩
structure Af where
 vars:List Nat
 level:List Nat
 pool:Ae
 tab:Nat->Nat×Nat->Option Nat
 counts:List Nat
 dead:Nat
variable {d d':Af}
structure BP where
 lb:Nat
 pb:Nat
 vv:Value
 vl:Value
 vt:Value
 vc:Value
 ts:List Nat
variable {s:BP}
def ptrV (b:Nat):Value:=Pt b
structure Ap (o:Own)(w:Wd)(sb:Nat)(d:Af)(s:BP):Prop where
 own:o sb=some .store
 ownl:o s.lb=some .levels
 blk:w.heap[sb]?=some (.cells #[Pt s.lb,Pt s.pb,s.vt,s.vc,Iv d.dead] 169 (0,0))
 lev:w.heap[s.lb]?=some (.cells #[s.vv,s.vl] 171 (0,0))
 vars:RowR o w .vars 3 1 s.vv d.vars.length (d.vars.map nat64)
 level:RowR o w .level 3 1 s.vl d.level.length (d.level.map nat64)
 pool:Aq o w s.pb d.pool
 tabs:RowR o w .tabs 192 1 s.vt s.ts.length (s.ts.map ptrV)
 tab:∀v,v<s.ts.length->AS o w v (s.ts.getD v 0) (d.tab v)
 counts:RowR o w .counts 3 1 s.vc d.counts.length (d.counts.map nat64)
 len:d.level.length=d.vars.length
 tlen:s.ts.length=d.vars.length
def A3 (o:Own)(w:Wd)(sb:Nat)(d:Af):Prop:=∃s,Ap o w sb d s
def Ap.below {o:Own}{w w':Wd}{sb:Nat}{d:Af}{s:BP}(h:Ap o w sb d s)(H:Ac o w)(hb:Bw w w'):Ap o w' sb d s:=
 ⟨h.own,h.ownl,(hb.block sb (H _ _ h.own)).trans h.blk,(hb.block s.lb (H _ _ h.ownl)).trans h.lev,h.vars.below H hb,h.level.below H hb,h.pool.below hb H,h.tabs.below H hb,λv I=>(h.tab v I).below hb H,h.counts.below H hb,h.len,h.tlen⟩
def Af.levelOf (d:Af)(v:Nat):Int:=if v<d.level.length then(d.level.getD v 0:Nat)else -1
def cells2 {a b:Value}(h:w.heap[g]?=some (.cells #[a,b] T (0,0))):w.cell? (Av g)=some a/\w.cell? (Aw g 1)=some b/\(∀k,w.frozen? (Aw g k)=false):=
 ⟨by rw[Xw w g 0 _ _ _ h];rfl,by rw[Xw w g 1 _ _ _ h];rfl,λk=>by simp[World.frozen?,h]⟩
def Qo {o:Own}(h:Ap o w sb d s)(v:Nat)(O:d.level.length<1000000):
 Cl 128 #[Pt s.lb,Iv v] w (Sm (Iv (d.levelOf v)) w):=by
 obtain⟨Y,c1,_⟩:=cells2 h.lev;obtain⟨a,cap,g1,_⟩:=h.level.slice;rw[g1]at c1;have g0:=h.level;rw[g1]at g0
 by_cases H:v<d.level.length
 ·obtain⟨g,cap',X,_⟩:=g0.shape (by omega);cases X;have hx:=g0.cell v (by simpa using H);have g2:(d.level.map nat64)[v]?=some (Iv ((d.level.getD v 0:Nat):Int)):=by
   rw[Yq,Xy H];simp[nat64,List.getD,H]
  rw[g2]at hx;have g3:(v:Int)<d.level.length:=by omega
  have I:d.levelOf v=((d.level.getD v 0:Nat):Int):=by simp[Af.levelOf,H]
  rw[I];obtain⟨L,U⟩:=Ex (((d.level.getD v 0:Nat):Int):Int);rw[<-U]at hx⊢;clear h g0 g1 g2 I U
  go_enter func128,ntmps128
  go_wp2;go_ret;exact⟨rfl,rfl⟩
 ·have g3:(d.level.length:Int)<=v:=by omega
  have I:d.levelOf v= -1:=by simp[Af.levelOf,H]
  rw[I];clear h g0 g1 I
  go_enter func128,ntmps128
  go_wp2;go_ret;exact⟨rfl,rfl⟩
def IL {o:Own}(h:Ap o w sb d s)(v:Nat)(H:d.level.length<1000000):
 Cl 85 #[Pt sb,Iv v] w (Sm (Iv (d.levelOf v)) w):=by
 obtain⟨X,c1,c2,U,O,f0⟩:=cells5 h.blk;have I:=Hd (Qo h v H);clear h
 go_enter func85,ntmps85
 go_wp2_with fail;refine I.o.mono ?_;rintro x w' ⟨rfl,rfl⟩;go_wp2;go_ret;exact⟨rfl,rfl⟩
def Ae.has (p:Ae)(i:Nat):RN:=if p.tk i=true then p.nd i else rn0
def Dz (o:Own)(pb:Nat)(p:Ae)(i:Nat)(w:Wd)(h:Aq o w pb p)(H:Ac o w):
 Cl 137 #[Pt pb,Iv i] w (Bl (.tuple #[Ao (p.has i),.bool (p.tk i)]) w):=by
 by_cases hi:p.tk i=true
 . have:=KO o pb p i w h H hi;unfold Ae.has;rw[Xx hi,hi];exact this
 ·have g0:p.tk i=false:=by simpa using hi
  have:=PC o pb p i w h H g0;unfold Ae.has;rw[Xu hi,g0];exact this
def Lh (k:Nat):(((k:Nat):Int) == 0)=decide (k=0):=by
 cases k with
 | zero=>rfl
 | succ n=>simp;omega
def Dd {o:Oper}{f:FuncId}{K:Act->Wd->Prop}{R:Wd->Prop}(H:(execOp a.eval o).run P w=.ok (.enter f args) w)
 (I:Calls P f args w λe w'=>e=.returned v/\R w') (h:∀w',R w'->K (a.put o.dst v) w'):o.wp P a w K Q:=by
 unfold Oper.wp;simp only[H,Oper.upon];exact I.mono λe w' ⟨h1,h2⟩=>by subst h1;exact h w' h2
def Li {o:Oper}{s x:Operand}{K:Act->Wd->Prop}(I:o.op=.store t s x)
 (H:(Instr.storeAt t (a.eval s) (a.eval x)).run P w=.ok () w') (h:K (a.put o.dst undef) w'):o.wp P a w K Q:=by
 unfold Oper.wp;rw[I8 I H];exact h
def Lj {bx:Nat}(hb:Bw w W)(H:w.heap.size<=bx)(n:RN):Bw w (set5 W bx 0 n):=
 ((((hb.setCell (p:=Av bx) H _).setCell (p:=Aw bx 1) H _).setCell (p:=Aw bx 2) H _).setCell (p:=Aw bx 3) H _).setCell (p:=Aw bx 4) H _
def Qp {bx:Nat}(h:W.heap[bx]?=some (.cells #[Iv 0,Iv 0,Iv 0,Iv 0,Iv 0] 203 (0,0)))(n:RN):
 (set5 W bx 0 n).heap[bx]?=some (.cells #[Iv n.id,Iv n.v,Iv n.lo,Iv n.hi,Iv n.refs] 203 (0,0)):=
 A2 (k:=4) (A2 (k:=3) (A2 (k:=2) (A2 (k:=1) (A2 (k:=0) h _) _) _) _) _
def EE (a:Act){d:Option Tmp}{t:Tmp}(u v:Value)(h:d≠some t):(a.put (some t) u).put d v=(a.put d v).put (some t) u:=by
 cases d with
 | none=>rfl
 | some e=>
   have g0:t≠e:=λc=>h (by rw[c])
   simp only[Act.put];rw[Z1 _ _ g0]
def Qq (a:Act)(t:Tmp)(u v:Value):(a.put (some t) u).put (some t) v=a.put (some t) v:=by
 simp only[Act.put,Array.setIfInBounds_setIfInBounds]
abbrev ZG:=@Array.getElem?_setIfInBounds
def Qr (a:Act)(t:Tmp):a.put (some t) (a.tmps.getD t undef)=a:=by
 simp only[Act.put];have:a.tmps.setIfInBounds t (a.tmps.getD t undef)=a.tmps:=by
  apply Array.ext_getElem?;intro i;rw[ZG];split
  ·rename_i e
   subst e;split
   ·rename_i hl
    simp[Array.getD,hl]
   ·rename_i hl
    exact(ZD (by omega)).symm
  . rfl
 rw[this]
def lwd (l:List Oper)(is:List Nat):Array Bool:=is.foldl (λL i=>L.setIfInBounds i true) (Array.replicate l.toArray.size false)
abbrev Zz:=@List.foldl_append
def IM (l:List Oper)(is:List Nat)(i:Nat):lwd l (is++[i])=(lwd l is).setIfInBounds i true:=by
 unfold lwd;rw[Zz];rfl
def rdR (l:List Oper)(is:List Nat)(i:Nat):Bool:=Region.noSelect l.toArray&&(Region.ready .any l.toArray (lwd l is)).contains i&&Region.free .any l.toArray (lwd l is) i&&(decide (l.toArray.size<=13)||reaches l.toArray l.toArray.size i 13)
def rdA (l:List Oper)(is H:List Nat):Bool:=decide (Region.ready .any l.toArray (lwd l is)=H) && !H.isEmpty
def rdE (l:List Oper)(is:List Nat):Bool:=(Region.ready .any l.toArray (lwd l is)).isEmpty
def andL:List Bool->Bool
 | []=>true
 | b::r=>b&&andL r
def AV {r:List Bool}(h:andL r=true)(i:Nat){b:Bool}(hb:r[i]?=some b):b=true:=by
 induction r generalizing i with
 | nil=>simp at hb
 | cons c r H=>
   have h2:(c&&andL r)=true:=h;rw[XH]at h2;cases i with
   | zero=>simp at hb;rw[<-hb];exact h2.1
   | succ i=>exact H h2.2 i (by simpa using hb)
def Qs (l:List Oper):List Bool:=[rdR l [] 0,
 rdR l ([]++[0]) 1,
 rdR l (([]++[0])++[1]) 2,
 rdR l ((([]++[0])++[1])++[2]) 3,
 rdR l (((([]++[0])++[1])++[2])++[3]) 4,
 rdA l ((((([]++[0])++[1])++[2])++[3])++[4]) [5,10],
 rdA l (((((([]++[0])++[1])++[2])++[3])++[4])++[5]) [6,10],
 rdR l ((((((([]++[0])++[1])++[2])++[3])++[4])++[5])++[6]) 7,
 rdR l (((((((([]++[0])++[1])++[2])++[3])++[4])++[5])++[6])++[7]) 8,
 rdR l ((((((((([]++[0])++[1])++[2])++[3])++[4])++[5])++[6])++[7])++[8]) 9,
 rdA l (((((((((([]++[0])++[1])++[2])++[3])++[4])++[5])++[6])++[7])++[8])++[9]) [10],
 rdA l ((((((((((([]++[0])++[1])++[2])++[3])++[4])++[5])++[6])++[7])++[8])++[9])++[10]) [11],
 rdR l (((((((((((([]++[0])++[1])++[2])++[3])++[4])++[5])++[6])++[7])++[8])++[9])++[10])++[11]) 12,
 rdE l ((((((((((((([]++[0])++[1])++[2])++[3])++[4])++[5])++[6])++[7])++[8])++[9])++[10])++[11])++[12]),
 rdA l ((((((([]++[0])++[1])++[2])++[3])++[4])++[5])++[10]) [6],
 rdR l (((((((([]++[0])++[1])++[2])++[3])++[4])++[5])++[10])++[6]) 7,
 rdR l ((((((((([]++[0])++[1])++[2])++[3])++[4])++[5])++[10])++[6])++[7]) 8,
 rdR l (((((((((([]++[0])++[1])++[2])++[3])++[4])++[5])++[10])++[6])++[7])++[8]) 9,
 rdA l ((((((((((([]++[0])++[1])++[2])++[3])++[4])++[5])++[10])++[6])++[7])++[8])++[9]) [11],
 rdR l (((((((((((([]++[0])++[1])++[2])++[3])++[4])++[5])++[10])++[6])++[7])++[8])++[9])++[11]) 12,
 rdE l ((((((((((((([]++[0])++[1])++[2])++[3])++[4])++[5])++[10])++[6])++[7])++[8])++[9])++[11])++[12]),
 rdA l (((((([]++[0])++[1])++[2])++[3])++[4])++[10]) [5],
 rdA l ((((((([]++[0])++[1])++[2])++[3])++[4])++[10])++[5]) [6],
 rdR l (((((((([]++[0])++[1])++[2])++[3])++[4])++[10])++[5])++[6]) 7,
 rdR l ((((((((([]++[0])++[1])++[2])++[3])++[4])++[10])++[5])++[6])++[7]) 8,
 rdR l (((((((((([]++[0])++[1])++[2])++[3])++[4])++[10])++[5])++[6])++[7])++[8]) 9,
 rdA l ((((((((((([]++[0])++[1])++[2])++[3])++[4])++[10])++[5])++[6])++[7])++[8])++[9]) [11],
 rdR l (((((((((((([]++[0])++[1])++[2])++[3])++[4])++[10])++[5])++[6])++[7])++[8])++[9])++[11]) 12,
 rdE l ((((((((((((([]++[0])++[1])++[2])++[3])++[4])++[10])++[5])++[6])++[7])++[8])++[9])++[11])++[12])]
abbrev DK:Obj:=.cells #[Iv 0,Iv 0,Iv 0,Iv 0,Iv 0] 203
abbrev IN (n:RN):Obj:=.cells #[Iv n.id,Iv n.v,Iv n.lo,Iv n.hi,Iv n.refs] 203 (0,0)
section
def Fw {is:List Nat}{o:Oper}(O:rdA l is [i]=true)(U:l[i]?=some o)(X:o.guard=none)
 (h:S w->o.wp P a w (λZ w'=>S w'/\Left P l Q S 13 f (lwd l (is++[i])) Z w') (NP Q)):Left P l Q S 13 (f+1) (lwd l is) a w:=
 DJ [i] O λj I Y o2 H=>by
  rw[XB]at I;subst I;rw[U]at H;cases H;rw[<-IM];exact⟨by simp[Region.wanted,X],h Y⟩
def Lk {is:List Nat}{o p:Oper}(U:rdA l is [i,j]=true)(Z:l[i]?=some o)(Y:l[j]?=some p)(b:o.guard=none)(X:p.guard=none)
 (h:S w->o.wp P a w (λI w'=>S w'/\Left P l Q S 13 f (lwd l (is++[i])) I w') (NP Q)) (h2:S w->p.wp P a w (λI w'=>S w'/\Left P l Q S 13 f (lwd l (is++[j])) I w') (NP Q)):Left P l Q S 13 (f+1) (lwd l is) a w:=
 DJ [i,j] U λk hk O o2 H=>by
  simp only[Yy,ZQ,or_false]at hk;rw[<-IM];rcases hk with rfl|rfl
  . rw[Z]at H;cases H;exact⟨by simp[Region.wanted,b],h O⟩
  . rw[Y]at H;cases H;exact⟨by simp[Region.wanted,X],h2 O⟩
def Cj {is:List Nat}{o:Oper}(U:rdR l is i=true)(I:l[i]?=some o)(O:o.guard=none)
 (H:∀w,S w->(execOp a.eval o).run P w=.ok (.value v) w) (h:Left P l Q S 13 f (lwd l (is++[i])) (a.put o.dst v) w):Left P l Q S 13 (f+1) (lwd l is) a w:=
 Cs i I O U ⟨v,H,by rw[<-IM];exact h⟩
theorem El {o0 o1 o2 e o4 I d U c h g O f:Oper}{t:Tmp}{N:RN}(hl:l=[o0,o1,o2,e,o4,I,d,U,c,h,g,O,f])(rd:andL (Qs l)=true)(hm:P.follows .mixedOrders=true)
 (hg:(o0.guard=none/\o1.guard=none/\o2.guard=none/\e.guard=none/\o4.guard=none/\I.guard=none/\d.guard=none)/\U.guard=none/\c.guard=none/\h.guard=none/\g.guard=none/\O.guard=none/\f.guard=none)
 (ht:g.dst=some t) (hne:I.dst≠some t/\d.dst≠some t/\U.dst≠some t/\c.dst≠some t/\h.dst≠some t) (hS:Bw w0 w.drew)
 {v0 v1 v2 v3 v4 v5 v6 v7 v8 v9 v12:Value} {g5 g6:FuncId} {v r:Array Value}
 (c5:∀W,Bw w0 W->Calls P g5 v W (Sm v5 W)) (c6:∀W,Bw w0 W->Calls P g6 r W (Bl v6 W))
 (h0:∀W,Bw w0 W->(execOp a.eval o0).run P W=.ok (.value v0) W/\(execOp (a.put o0.dst v0).eval o1).run P W=.ok (.value v1) W/\(execOp ((a.put o0.dst v0).put o1.dst v1).eval o2).run P W=.ok (.value v2) W/\(execOp (((a.put o0.dst v0).put o1.dst v1).put o2.dst v2).eval e).run P W=.ok (.value v3) W/\(execOp ((((a.put o0.dst v0).put o1.dst v1).put o2.dst v2).put e.dst v3).eval o4).run P W=.ok (.value v4) W)
 (n:∀(x:Value) W,(execOp ((((((a.put o0.dst v0).put o1.dst v1).put o2.dst v2).put e.dst v3).put o4.dst v4).put (some t) x).eval I).run P W=.ok (.enter g5 v) W/\(execOp (((((((a.put o0.dst v0).put o1.dst v1).put o2.dst v2).put e.dst v3).put o4.dst v4).put (some t) x).put I.dst v5).eval d).run P W=.ok (.enter g6 r) W)
 (i:∀(x:Value) (W:Wd) (X:Act),X=(((((((a.put o0.dst v0).put o1.dst v1).put o2.dst v2).put e.dst v3).put o4.dst v4).put (some t) x).put I.dst v5).put d.dst v6->(execOp X.eval U).run P W=.ok (.value v7) W/\(execOp (X.put U.dst v7).eval c).run P W=.ok (.value v8) W/\(execOp ((X.put U.dst v7).put c.dst v8).eval h).run P W=.ok (.value v9) W)
 (k:∀(a:Act) W,(execOp a.eval g).run P W=.ok (.value (Pt W.heap.size)) (W.alloc DK))
 (p:∀(bx:Nat) (W:Wd) (Y:Act),W.heap[bx]?=some (.cells #[Iv 0,Iv 0,Iv 0,Iv 0,Iv 0] 203 (0,0))->Y=((((((((((a.put o0.dst v0).put o1.dst v1).put o2.dst v2).put e.dst v3).put o4.dst v4).put (some t) (Pt bx)).put I.dst v5).put d.dst v6).put U.dst v7).put c.dst v8).put h.dst v9->(∃T s x,O.op=.store T s x/\(Instr.storeAt T (Y.eval s) (Y.eval x)).run P W=.ok () (set5 W bx 0 N))/\∀W,(execOp (Y.put O.dst undef).eval f).run P W=.ok (.value v12) W)
 (hf:∀(bx:Nat) (W:Wd),w0.heap.size<=bx->Bw w0 W->W.heap[bx]?=some (IN N)->Q .normal ((((((((((((a.put o0.dst v0).put o1.dst v1).put o2.dst v2).put e.dst v3).put o4.dst v4).put (some t) (Pt bx)).put I.dst v5).put d.dst v6).put U.dst v7).put c.dst v8).put h.dst v9).put O.dst undef |>.put f.dst v12) W):
 (Code.region id l.toArray true).wp P Q a w:=by
 obtain⟨⟨q0,q1,q2,q3,q4,q5,G⟩,F,E,D,j,K,J⟩:=hg;obtain⟨n5,n6,n7,n8,n9⟩:=hne;have e0:l[0]?=some o0:=by rw[hl];rfl
 have e1:l[1]?=some o1:=by rw[hl];rfl
 have e2:l[2]?=some o2:=by rw[hl];rfl
 have e3:l[3]?=some e:=by rw[hl];rfl
 have e4:l[4]?=some o4:=by rw[hl];rfl
 have e5:l[5]?=some I:=by rw[hl];rfl
 have e6:l[6]?=some d:=by rw[hl];rfl
 have e7:l[7]?=some U:=by rw[hl];rfl
 have e8:l[8]?=some c:=by rw[hl];rfl
 have e9:l[9]?=some h:=by rw[hl];rfl
 have m:l[10]?=some g:=by rw[hl];rfl
 have e11:l[11]?=some O:=by rw[hl];rfl
 have e12:l[12]?=some f:=by rw[hl];rfl
 have g3:l.length=13:=by rw[hl];rfl
 clear hl;have r0:=AV rd 0 rfl;have r1:=AV rd 1 rfl;have r2:=AV rd 2 rfl;have r3:=AV rd 3 rfl;have r4:=AV rd 4 rfl;have s0:=AV rd 5 rfl;have s1:=AV rd 6 rfl;have p7:=AV rd 7 rfl;have p8:=AV rd 8 rfl;have p9:=AV rd 9 rfl;have S:=AV rd 10 rfl;have R:=AV rd 11 rfl;have M:=AV rd 12 rfl;have L:=AV rd 13 rfl;have u6:=AV rd 14 rfl;have u7:=AV rd 15 rfl;have u8:=AV rd 16 rfl;have u9:=AV rd 17 rfl;have C:=AV rd 18 rfl;have B:=AV rd 19 rfl;have z:=AV rd 20 rfl;have k5:=AV rd 21 rfl;have k6:=AV rd 22 rfl;have k7:=AV rd 23 rfl;have k8:=AV rd 24 rfl;have k9:=AV rd 25 rfl;have k11:=AV rd 26 rfl;have k12:=AV rd 27 rfl;have V:=AV rd 28 rfl;clear rd;refine IK (λW:Wd=>Bw w0 W) 13 hm hS ?_;rw[g3]
 show Left P l Q (λW:Wd=>Bw w0 W) 13 13 (lwd l []) a w.drew
 have b:=hS
 generalize w.drew=w at b⊢
 refine Cj r0 e0 q0 (λW H=>(h0 W H).1) ?_;refine Cj r1 e1 q1 (λW H=>(h0 W H).2.1) ?_;refine Cj r2 e2 q2 (λW H=>(h0 W H).2.2.1) ?_;refine Cj r3 e3 q3 (λW H=>(h0 W H).2.2.2.1) ?_;refine Cj r4 e4 q4 (λW H=>(h0 W H).2.2.2.2) ?_;obtain⟨A,hA⟩:=Ex (((((a.put o0.dst v0).put o1.dst v1).put o2.dst v2).put e.dst v3).put o4.dst v4);rw[<-hA]at n i p hf⊢;clear h0 hA;have q:∀(x y:Value),((A.put (some t) x).put I.dst v5).put (some t) y=(A.put (some t) y).put I.dst v5:=λx y=>by
  rw[EE A x v5 n5,Qq,<-EE A y v5 n5]
 have c9p:∀(x y:Value),((((((A.put (some t) x).put I.dst v5).put d.dst v6).put U.dst v7).put c.dst v8).put h.dst v9).put (some t) y=(((((A.put (some t) y).put I.dst v5).put d.dst v6).put U.dst v7).put c.dst v8).put h.dst v9:=λx y=>by
  rw[<-EE _ y v9 n9,<-EE _ y v8 n8,<-EE _ y v7 n7,<-EE _ y v6 n6,q]
 have fin:∀(is:List Nat) (bx:Nat) (W:Wd),W.heap[bx]?=some (.cells #[Iv 0,Iv 0,Iv 0,Iv 0,Iv 0] 203 (0,0))->w0.heap.size<=bx->Bw w0 W ->
  rdA l is [11]=true->rdR l (is++[11]) 12=true->rdE l (is++[11]++[12])=true ->
  Left P l Q (λW:Wd=>Bw w0 W) 13 2 (lwd l is) ((((((A.put (some t) (Pt bx)).put I.dst v5).put d.dst v6).put U.dst v7).put c.dst v8).put h.dst v9) W:=λis bx W Z g2 H i1 i2 i3=>by
  obtain⟨⟨T,s,x,j1,j2⟩,j3⟩:=p bx W _ Z rfl;refine Fw i1 e11 K λ_=>Li j1 j2 ⟨Lj H g2 N,?_⟩
  refine Cj i2 e12 J (λW _=>j3 W) ?_;exact Gy i3 (hf bx _ g2 (Lj H g2 N) (Qp Z N))
 refine Lk s0 e5 m q5 j (λ_=>?_) (λ_=>?_)
 ·obtain⟨x,hx⟩:∃x,A.put (some t) x=A:=⟨_,Qr A t⟩;rw[<-hx];refine Dd (n x w).1 (c5 w b) ?_;rintro W rfl;refine⟨b,Lk s1 e6 m G j (λ_=>?_) (λ_=>?_)⟩
  ·refine Dd (n x w).2 (c6 w b) λW H=>?_
   have g1:=b.trans (H.mono b.size);refine⟨g1,?_⟩;refine Cj p7 e7 F (λW _=>(i x W _ rfl).1) ?_;refine Cj p8 e8 E (λW _=>(i x W _ rfl).2.1) ?_;refine Cj p9 e9 D (λW _=>(i x W _ rfl).2.2) ?_;have g0:=g1.trans ((Ag W DK).mono g1.size);refine Fw S m j λ_=>Dc (k _ W) ⟨g0,?_⟩
   rw[ht,c9p];exact fin _ _ _ (Xv W _) g1.size g0 R M L
  ·have g0:=b.trans ((Ag w DK).mono b.size);refine Dc (k _ w) ⟨g0,?_⟩;rw[ht,q];have Z:=Xv w DK;have g2:w0.heap.size<=w.heap.size:=b.size
   generalize w.alloc DK=u at g0 Z⊢
   generalize w.heap.size=bx at Z g2⊢
   refine Fw u6 e6 G λ_=>Dd (n _ u).2 (c6 u g0) λW H=>?_
   have g1:=g0.trans (H.mono g0.size);refine⟨g1,?_⟩;refine Cj u7 e7 F (λW _=>(i _ W _ rfl).1) ?_;refine Cj u8 e8 E (λW _=>(i _ W _ rfl).2.1) ?_;refine Cj u9 e9 D (λW _=>(i _ W _ rfl).2.2) ?_;exact fin _ bx W ((H.block _ (Xt.1 Z).1).trans Z) g2 g1 C B z
 ·have g0:=b.trans ((Ag w DK).mono b.size);refine Dc (k _ w) ⟨g0,?_⟩;rw[ht];have Z:=Xv w DK;have g2:w0.heap.size<=w.heap.size:=b.size
  generalize w.alloc DK=u at g0 Z⊢
  generalize w.heap.size=bx at Z g2⊢
  refine Fw k5 e5 q5 λ_=>Dd (n _ u).1 (c5 u g0) ?_
  rintro W rfl;refine⟨g0,?_⟩;refine Fw k6 e6 G λ_=>Dd (n _ u).2 (c6 u g0) λW H=>?_
  have g1:=g0.trans (H.mono g0.size);refine⟨g1,?_⟩;refine Cj k7 e7 F (λW _=>(i _ W _ rfl).1) ?_;refine Cj k8 e8 E (λW _=>(i _ W _ rfl).2.1) ?_;refine Cj k9 e9 D (λW _=>(i _ W _ rfl).2.2) ?_;exact fin _ bx W ((H.block _ (Xt.1 Z).1).trans Z) g2 g1 k11 k12 V
end
def EG {o:Own}(h:Ap o w sb d s)(H:Ac o w)(f:Nat)(b:f<eMax):
 Cl 130 #[Pt sb,Iv f] w (Bl (.bool (decide (enode f=0)||d.pool.tk (enode f))) w):=by
 obtain⟨e,c1,c2,q,n,f0⟩:=cells5 h.blk;have I:sb<w.heap.size:=Ad e;have Z:(0:Int)<=f:=by omega
 have g3:Hq (∀W:Wd,Bw w W->W.cell? (Aw sb 1)=some (Pt s.pb)):=Hd (λW hb=>(hb.cell (p:=Aw sb 1) I).trans c1);have g1:Hq (∀W:Wd,Bw w W->Cl 137 #[Pt s.pb,Iv (enode f:Nat)] W (Bl (.tuple #[Ao (d.pool.has (enode f)),.bool (d.pool.tk (enode f))]) W)):=
  Hd (λW hb=>Dz o s.pb d.pool (enode f) W (h.pool.below hb H) (H.mono hb.size))
 have U:=Hd (λW=>BJ f W b);obtain⟨N,c⟩:=Ex (d.pool.has (enode f));obtain⟨B,O⟩:=Ex (d.pool.tk (enode f));obtain⟨k,hk⟩:=Ex (enode f);rw[<-c,<-O,<-hk]at g1;rw[<-hk]at U;rw[<-O,<-hk];obtain⟨z,g0⟩:=Ex (decide (k=0):Bool);have g5:(((k:Nat):Int) == 0)=z:=by rw[g0];exact Lh k
 rw[<-g0];clear h H e c1 c2 q n f0 c O hk b g0
 go_enter func130,ntmps130
 go_upto_region 3 with fail;refine El (w0:=w) (N:=N) (v0:=Pt sb) (v1:=Pt sb) (v2:=.pointer (some (Aw sb 1))) (v3:=Pt s.pb) (v4:=Iv f) (v5:=Iv k) (v6:=.tuple #[Ao N,.bool B]) (v7:=.tuple #[Ao N,.bool B]) (v8:=Ao N) (v9:=.bool B) (v12:=.bool B) rfl (by kernel_rfl) (by kernel_rfl) ⟨⟨rfl,rfl,rfl,rfl,rfl,rfl,rfl⟩,rfl,rfl,rfl,rfl,rfl,rfl⟩ rfl (by decide) (An w 1) (λW _=>U.o W) (λW hb=>g1.o W hb) (λW hb=>?_) (λx W=>?_) (λx W X i=>?_) (λa W=>?_) (λbx W Y Z g=>?_) (λbx r g6 g2 g4=>?_)
 . have g7:=g3.o W hb;simp only[Ab];refine⟨?_,?_,?_,?_,?_⟩<;>go_simp
 . simp only[Ab];refine⟨?_,?_⟩<;>go_simp
 . subst i;simp only[Ab];unfold Ao;refine⟨?_,?_,?_⟩<;>go_simp
 . go_simp
 . subst g;obtain⟨e0,e1,e2,m,l,j⟩:=cells5 Z;simp only[Ab];unfold Ao;refine⟨⟨_,_,_,rfl,DF (k:=0) j e0 e1 e2 m l _ _ _ _ _⟩,λW=>?_⟩;go_simp
 simp only[Ab];unfold Ao;go_wp2_with fail;refine(U.o _).mono ?_;rintro x w' ⟨rfl,rfl⟩;cases z
 all_goals go_wp2_with fail
 all_goals go_ret
 all_goals exact⟨rfl,g2⟩
def Qt {o:Own}(h:Ap o w sb d s)(H:Ac o w)(f:Nat)(c:f<eMax)(lv:Int)(I:d.level.length<1000000):
 Cl 152 #[Pt sb,Iv f,Iv lv] w (Bl (.bool (decide (enode f=0)||(d.pool.tk (enode f)&&decide (lv<d.levelOf (d.pool.has (enode f)).v)))) w):=by
 obtain⟨g,c1,c2,t,r,f0⟩:=cells5 h.blk;have O:sb<w.heap.size:=Ad g;have g5:Hq (∀W:Wd,Bw w W->W.cell? (Aw sb 1)=some (Pt s.pb)):=Hd (λW hb=>(hb.cell (p:=Aw sb 1) O).trans c1);have g2:Hq (∀W:Wd,Bw w W->Cl 137 #[Pt s.pb,Iv (enode f:Nat)] W (Bl (.tuple #[Ao (d.pool.has (enode f)),.bool (d.pool.tk (enode f))]) W)):=
  Hd (λW hb=>Dz o s.pb d.pool (enode f) W (h.pool.below hb H) (H.mono hb.size))
 have g3:Hq (∀W:Wd,Bw w W->Cl 85 #[Pt sb,Iv ((d.pool.has (enode f)).v:Nat)] W (Sm (Iv (d.levelOf (d.pool.has (enode f)).v)) W)):=
  Hd (λW hb=>IL (h.below H hb) _ I)
 have b:=Hd (λW=>BJ f W c);obtain⟨N,U⟩:=Ex (d.pool.has (enode f));obtain⟨B,Z⟩:=Ex (d.pool.tk (enode f));obtain⟨k,hk⟩:=Ex (enode f);rw[<-U]at g2 g3;rw[<-Z,<-hk]at g2;rw[<-hk]at b;rw[<-Z,<-U,<-hk];obtain⟨M,e⟩:=Ex (d.levelOf N.v);rw[<-e]at g3⊢;obtain⟨z,g1⟩:=Ex (decide (k=0):Bool);have g6:(((k:Nat):Int) == 0)=z:=by rw[g1];exact Lh k
 rw[<-g1];clear h H g c1 c2 t r f0 U Z hk c g1 e
 go_enter func152,ntmps152
 go_upto_region 1 with fail;refine El (w0:=w) (N:=N) (v0:=Pt sb) (v1:=Pt sb) (v2:=.pointer (some (Aw sb 1))) (v3:=Pt s.pb) (v4:=Iv f) (v5:=Iv k) (v6:=.tuple #[Ao N,.bool B]) (v7:=.tuple #[Ao N,.bool B]) (v8:=Ao N) (v9:=.bool B) (v12:=.bool B) rfl (by kernel_rfl) (by kernel_rfl) ⟨⟨rfl,rfl,rfl,rfl,rfl,rfl,rfl⟩,rfl,rfl,rfl,rfl,rfl,rfl⟩ rfl (by decide) (An w 1) (λW _=>b.o W) (λW hb=>g2.o W hb) (λW hb=>?_) (λx W=>?_) (λx W X l=>?_) (λa W=>?_) (λbx W Y i j=>?_) (λbx F g7 g0 g4=>?_)
 . have g8:=g5.o W hb;simp only[Ab];refine⟨?_,?_,?_,?_,?_⟩<;>go_simp
 . simp only[Ab];refine⟨?_,?_⟩<;>go_simp
 . subst l;simp only[Ab];unfold Ao;refine⟨?_,?_,?_⟩<;>go_simp
 . go_simp
 . subst j;obtain⟨e0,e1,e2,q,n,m⟩:=cells5 i;simp only[Ab];unfold Ao;refine⟨⟨_,_,_,rfl,DF (k:=0) m e0 e1 e2 q n _ _ _ _ _⟩,λW=>?_⟩;go_simp
 simp only[Ab];unfold Ao;obtain⟨E,D,C,A,y,u⟩:=cells5 g4;go_wp2_with fail;refine(b.o _).mono ?_;rintro x w' ⟨rfl,rfl⟩;cases z
 ·cases B
  . go_wp2;go_ret;exact⟨rfl,g0⟩
  . go_wp2_with fail;refine(g3.o _ g0).mono ?_;rintro x w' ⟨rfl,rfl⟩;go_wp2;go_ret;exact⟨rfl,g0⟩
 . go_wp2;go_ret;exact⟨rfl,g0⟩
def CF {f:FuncId}
 (h:Calls P f args (w.drewN n) λe w'=>e=.returned v/\w.drewN n=w'):Calls P f args (w.drewN n) λe w''=>e=.returned v/\∃m,w''=w.drewN m:=
 h.mono λ_ _ ⟨I,H⟩=>⟨I,n,H.symm⟩
def IP {fn:Func}{t u v x:Tmp}(h:fn.results=#[.tmp t,.tmp u,.tmp v,.tmp x])(tmps:Array Value)(P:Program)(w:Wd):
 (results fn tmps).run P w=.ok (.tuple #[tmps.getD t undef,tmps.getD u undef,tmps.getD v undef,tmps.getD x undef]) w:=by
 simp[results,h]
def Ll {o:Own}(h:Ap o w sb d s)(H:Ac o w)(f:Nat)(Z:f<eMax)(I:(d.pool.has (enode f)).lo<eMax)(O:(d.pool.has (enode f)).hi<eMax):
 Cl 102 #[Pt sb,Iv f] w (Bl (if d.pool.tk (enode f)=true then .tuple #[Iv (d.pool.has (enode f)).v,Iv (eflip (d.pool.has (enode f)).lo (eneg f):Nat),Iv (eflip (d.pool.has (enode f)).hi (eneg f):Nat),.bool true]else .tuple #[Iv (-1),Iv 0,Iv 0,.bool false]) w):=by
 obtain⟨q,c1,c2,F,E,f0⟩:=cells5 h.blk;have U:sb<w.heap.size:=Ad q;have g6:Hq (∀W:Wd,Bw w W->W.cell? (Aw sb 1)=some (Pt s.pb)):=Hd (λW hb=>(hb.cell (p:=Aw sb 1) U).trans c1);have g2:Hq (∀W:Wd,Bw w W->Cl 137 #[Pt s.pb,Iv (enode f:Nat)] W (Bl (.tuple #[Ao (d.pool.has (enode f)),.bool (d.pool.tk (enode f))]) W)):=
  Hd (λW hb=>Dz o s.pb d.pool (enode f) W (h.pool.below hb H) (H.mono hb.size))
 have j:(0:Int)<=f:=by omega
 have r:=Hd (λW=>CZ f W Z);have g0:=Hd (λW b=>Cz (d.pool.has (enode f)).lo b W I);have g1:=Hd (λW b=>Cz (d.pool.has (enode f)).hi b W O);have i:=Hd (λW=>BJ f W Z);obtain⟨N,c⟩:=Ex (d.pool.has (enode f));obtain⟨B,e⟩:=Ex (d.pool.tk (enode f));obtain⟨k,hk⟩:=Ex (enode f);rw[<-c]at g2 g0 g1;rw[<-e,<-hk]at g2;rw[<-hk]at i;rw[<-e,<-c];obtain⟨g,l⟩:=Ex (eneg f:Bool);rw[<-l]at r⊢;have g0:=Hd (λW=>g0.o W g);have g1:=Hd (λW=>g1.o W g);obtain⟨A,n⟩:=Ex (eflip N.lo g);obtain⟨C,m⟩:=Ex (eflip N.hi g);rw[<-n]at g0⊢;rw[<-m]at g1⊢;obtain⟨S,g3⟩:=Ex ((if B=true then .tuple #[Iv N.v,Iv (A:Nat),Iv (C:Nat),.bool true]else .tuple #[Iv (-1),Iv 0,Iv 0,.bool false]):Value);rw[<-g3];have g5:=Hd g3;clear h H q c1 c2 F E f0 c e hk Z l n m I O g3
 go_enter func102,ntmps102
 go_upto_region 3 with fail;refine El (w0:=w) (N:=N) (v0:=Pt sb) (v1:=Pt sb) (v2:=.pointer (some (Aw sb 1))) (v3:=Pt s.pb) (v4:=Iv f) (v5:=Iv k) (v6:=.tuple #[Ao N,.bool B]) (v7:=.tuple #[Ao N,.bool B]) (v8:=Ao N) (v9:=.bool B) (v12:=.bool B) rfl (by kernel_rfl) (by kernel_rfl) ⟨⟨rfl,rfl,rfl,rfl,rfl,rfl,rfl⟩,rfl,rfl,rfl,rfl,rfl,rfl⟩ rfl (by decide) (An w 1) (λW _=>i.o W) (λW hb=>g2.o W hb) (λW hb=>?_) (λx W=>?_) (λx W X u=>?_) (λa W=>?_) (λbx W Y j t=>?_) (λbx R g8 g4 g7=>?_)
 . have g9:=g6.o W hb;simp only[Ab];refine⟨?_,?_,?_,?_,?_⟩<;>go_simp
 . simp only[Ab];refine⟨?_,?_⟩<;>go_simp
 . subst u;simp only[Ab];unfold Ao;refine⟨?_,?_,?_⟩<;>go_simp
 . go_simp
 . subst t;obtain⟨e0,e1,e2,D,z,y⟩:=cells5 j;simp only[Ab];unfold Ao;refine⟨⟨_,_,_,rfl,DF (k:=0) y e0 e1 e2 D z _ _ _ _ _⟩,λW=>?_⟩;go_simp
 simp only[Ab];unfold Ao;obtain⟨Q,M,L,K,J,G⟩:=cells5 g7;clear i g2 g6;cases B
 . go_wp2_with fail;refine X2 (IP rfl _ _ _) rfl ⟨?_,g4⟩;rw[g5.o];rfl
 ·go_upto_region 6 with fail
  go_quiet ((first|(with_reducible exact CF (r.o _))|(with_reducible exact CF (g0.o _))|(with_reducible exact CF (g1.o _))))
  go_wp2_with fail;refine X2 (IP rfl _ _ _) rfl ⟨?_,CB g4 _⟩;rw[g5.o];rfl
def bnOf (r:RN):BN:=⟨r.v,r.lo,r.hi⟩
def Aa (d:Af):Nat->Option BN:=λi=>(d.pool.get i).map bnOf
def Ak (d:Af):Nat->Nat:=λi=>d.counts.getD i 0
def Af.cd (d:Af)(cs:List Nat)(H:Nat):Af:={ d with counts:=cs,dead:=H }
def BQ {b:BN}(h:Aa d i=some b):d.pool.tk i=true/\d.pool.has i=d.pool.nd i/\bnOf (d.pool.has i)=b:=by
 unfold Aa Ae.get at h
 by_cases e:d.pool.tk i=true
 . rw[Xx e]at h;refine⟨e,by unfold Ae.has;rw[Xx e],?_⟩;unfold Ae.has;rw[Xx e];simpa using h
 . rw[Xu e]at h;cases h
def IQ (h:Aa d i=none):d.pool.tk i=false:=by
 unfold Aa Ae.get at h
 by_cases e:d.pool.tk i=true
 . rw[Xx e]at h;cases h
 . simpa using e
structure Acy (N:Nat->Option BN)(rk:Nat->Nat):Prop where
 none0:N 0=none
 okLo:∀i b,N i=some b->okE N b.lo
 okHi:∀i b,N i=some b->okE N b.hi
 ltLo:∀i b c,N i=some b->N (b.lo/2)=some c->rk (b.lo/2)<rk i
 ltHi:∀i b c,N i=some b->N (b.hi/2)=some c->rk (b.hi/2)<rk i
structure AD (d:Af)(ext:Nat->Int):Prop where
 cnt:Cnt d.pool.at_.length (Aa d) (Ak d) ext
 dead:(d.dead:Int)=Bb d.pool.at_.length (Aa d) (Ak d)
 has:∀i b,Aa d i=some b->i<d.counts.length
def Fx {f:Nat->Int}{B:Int}:∀(k:Nat),(∀i,i<k->f i<=B)->Ah k f<=k*B
 | 0,_=>by simp[Ah]
 | k+1,h=>by
   have H:=Fx k (λi hi=>h i (by omega));have h1:=h k (by omega);have:Ah (k+1) f=Ah k f+f k:=rfl;rw[this];have e:((k+1:Nat):Int)*B=k*B+B:=by rw[Int.natCast_add,Int.add_mul];simp
   omega
def Qu (N:Nat->Option BN)(c:Nat->Nat)(x p:Nat):from1 N c x p<=2:=by
 unfold from1 C0 toE;split
 ·split
  . split<;>split<;>omega
  . omega
 . omega
def Cnt.le {c:Nat->Nat}{ext:Nat->Int}(h:Cnt k N c ext){b:BN}(hx:N x=some b):(c x:Int)<=ext x+2*k:=by
 have h1:=h.eq x b hx;have h2:=Fx (f:=from1 N c x) (B:=2) k (λi _=>Qu N c x i);omega
def DL {v H:Nat}(hx:x<d.counts.length):Ak (d.cd (d.counts.set x v) H)=setC (Ak d) x v:=by
 funext i;unfold Ak setC Af.cd;dsimp only
 by_cases e:i=x
 . subst e;simp[List.getD,hx]
 . simp only[List.getD,Yb,Xu (Ye e),Xu e]
section
variable {ext:Nat->Int}{b:BN}
def AD.congr (h:AD d ext){ext':Nat->Int}(H:∀x b,Aa d x=some b->ext' x=ext x):AD d ext':=⟨h.cnt.congr H,h.dead,h.has⟩
def AD.moreLive (h:AD d ext)(hx:Aa d x=some b)(H:0<Ak d x):AD (d.cd (d.counts.set x (Ak d x+1)) d.dead) (bump ext x 1):=by
 have hl:=h.has x b hx;refine⟨?_,?_,λi I hb=>by simpa [Af.cd]using h.has i I hb⟩
 . rw[DL hl];exact h.cnt.moreLive H
 ·rw[DL hl]
  show(d.dead:Int)=Bb d.pool.at_.length (Aa d) _
  rw[Gk hx (h.cnt.lt x b hx),<-h.dead,Xu (by omega),Xu (by omega)];omega
def AD.moreDead (h:AD d ext)(hx:Aa d x=some b)(H:Ak d x=0):0<d.dead/\AD (d.cd (d.counts.set x 1) (d.dead-1)) (addE (addE (bump ext x 1) b.lo (-1)) b.hi (-1)):=by
 have hl:=h.has x b hx;have hk:=h.cnt.lt x b hx;have h1:=Gk (c:=Ak d) (v:=1) hx hk;rw[Xu (by omega),Xx H,<-h.dead]at h1;have h2:0<=Bb d.pool.at_.length (Aa d) (setC (Ak d) x 1):=Gi _ λi _=>KL _ _ i
 refine⟨by omega,?_,?_,λi I hb=>by simpa [Af.cd]using h.has i I hb⟩
 . rw[DL hl];exact h.cnt.moreDead hx H
 ·rw[DL hl]
  show((d.dead-1:Nat):Int)=Bb d.pool.at_.length (Aa d) _
  rw[h1];omega
def AD.lessLive (h:AD d ext)(hx:Aa d x=some b)(H:1<Ak d x):AD (d.cd (d.counts.set x (Ak d x-1)) d.dead) (bump ext x (-1)):=by
 have hl:=h.has x b hx;refine⟨?_,?_,λi I hb=>by simpa [Af.cd]using h.has i I hb⟩
 . rw[DL hl];exact h.cnt.lessLive H
 ·rw[DL hl]
  show(d.dead:Int)=Bb d.pool.at_.length (Aa d) _
  rw[Gk hx (h.cnt.lt x b hx),<-h.dead,Xu (by omega),Xu (by omega)];omega
def AD.lessDies (h:AD d ext)(hx:Aa d x=some b)(H:Ak d x=1):AD (d.cd (d.counts.set x 0) (d.dead+1)) (addE (addE (bump ext x (-1)) b.lo 1) b.hi 1):=by
 have hl:=h.has x b hx;have hk:=h.cnt.lt x b hx;have h1:=Gk (c:=Ak d) (v:=0) hx hk;rw[Xx rfl,Xu (by omega),<-h.dead]at h1;refine⟨?_,?_,λi I hb=>by simpa [Af.cd]using h.has i I hb⟩
 . rw[DL hl];exact h.cnt.lessDies hx H
 ·rw[DL hl]
  show((d.dead+1:Nat):Int)=Bb d.pool.at_.length (Aa d) _
  rw[h1];omega
end
def RCnt (r:Role):Prop:=r=.store\/r=.counts
section
variable {o:Own}
def Ap.countsAt (h:Ap o w sb d s)(hx:x<d.counts.length):∃gc cap,s.vc=.slice (some (Av gc)) d.counts.length cap/\o gc=some .counts/\gc≠sb/\d.counts.length<=cap/\cap<=maxLen/\(∀k,w.frozen? (Aw gc k)=false) /\
 (∀k,k<d.counts.length->w.cell? (Aw gc k)=some (Iv (Ak d k:Nat))):=by
 obtain⟨gc,cap,O,I,h1,h2⟩:=h.counts.shape (by omega);have H:=h.counts;rw[O]at H;refine⟨gc,cap,O,I,λe=>(by subst e;rw[h.own]at I;cases I),h1,h2,H.frozen,λk hk=>?_⟩;rw[H.cell k (by simpa using hk),Yq,Xy hk];simp[nat64,Ak,List.getD,hk]
def Ap.keepBut (h:Ap o w sb d s)(I:o g=some .counts\/o g=some .store)(hk:∀k,k≠g->w'.heap[k]?=w.heap[k]?)
 (hb:∃O cs,w'.heap[sb]?=some (.cells #[Pt s.lb,Pt s.pb,s.vt,s.vc,Iv (O:Nat)] 169 (0,0))/\RowR o w' .counts 3 1 s.vc cs.length (cs.map nat64)/\d'=d.cd cs O):Ap o w' sb d' s:=by
 obtain⟨O,cs,h1,h2,rfl⟩:=hb;have g0:∀{b r},o b=some r->r ≠ .counts->r ≠ .store->b≠g:=λhb H g1 e=>by subst e;rcases I with I|I<;>rw[hb]at I<;>cases I<;>contradiction
 exact⟨h.own,h.ownl,h1,(hk _ (g0 h.ownl (by simp) (by simp))).trans h.lev,h.vars.keep (λb hb=>hk _ (g0 hb (by simp) (by simp))) (λ_ h=>h),h.level.keep (λb hb=>hk _ (g0 hb (by simp) (by simp))) (λ_ h=>h),
  h.pool.keep (λb r hb H=>hk _ (g0 hb (by rcases H with rfl|rfl|rfl|rfl<;>simp) (by rcases H with rfl|rfl|rfl|rfl<;>simp))) (λ_ _ h=>h),
  h.tabs.keep (λb hb=>hk _ (g0 hb (by simp) (by simp))) (λ_ h=>h),
  λv U=>(h.tab v U).keep (λb r hb H=>hk _ (g0 hb (by rcases H with rfl|rfl<;>simp) (by rcases H with rfl|rfl<;>simp))) (λ_ _ h=>h),h2,h.len,h.tlen⟩
def Ap.setCount (h:Ap o w sb d s){gc cap:Nat}(O:s.vc=.slice (some (Av gc)) d.counts.length cap)(I:gc≠sb)(x v:Nat):Ap o (w.setCell (Aw gc x) (Iv v)) sb (d.cd (d.counts.set x v) d.dead) s:=by
 have H:=h.counts;rw[O]at H;refine h.keepBut (g:=gc) (.inl H.owner) (λk hk=>Az hk _) ⟨d.dead,_,(Az (Ye I) _).trans h.blk,?_,rfl⟩;have:=H.stored x (Iv v);rw[O,XE,Zp];exact this
def Ap.setDead (h:Ap o w sb d s)(I:Ac o w)(H:Nat):Ap o (w.setCell (Aw sb 4) (Iv H)) sb (d.cd d.counts H) s:=by
 refine h.keepBut (g:=sb) (.inr h.own) (λk hk=>Az hk _) ⟨H,d.counts,?_,?_,rfl⟩
 . exact A2 (k:=4) h.blk _
 . exact h.counts.keep (λb hb=>Az (λe=>by have O:b=sb:=e;subst O;rw[h.own]at hb;cases hb) _) (λ_ h=>h)
end
def EH {fn:Func}(h:fn.results=#[])(tmps:Array Value)(P:Program)(w:Wd):(results fn tmps).run P w=.ok (.tuple #[]) w:=by simp[results,h]
def BH (o:Own)(w:Wd)(sb:Nat)(d:Af)(s:BP)(rk:Nat->Nat)(m:Nat)(less:Bool)(ext':Nat->Int)(e:Ending)(w':Wd):Prop:=
 ∃cs H,e=.returned (.tuple #[])/\Ap o w' sb (d.cd cs H) s/\AD (d.cd cs H) ext'/\cs.length=d.counts.length/\(∀i,m<=rk i->cs.getD i 0=d.counts.getD i 0)/\(less=true->∀i,cs.getD i 0<=d.counts.getD i 0)/\Chg RCnt o o w w'
structure Fy (o:Own)(w:Wd)(sb:Nat)(d:Af)(s:BP)(rk:Nat->Nat)(ext:Nat->Int)(f:Nat)(m:Nat):Prop where
 st:Ap o w sb d s
 lt:Ac o w
 acy:Acy (Aa d) rk
 ok:okE (Aa d) f
 live:AD d ext
 top:∀y b,Aa d y=some b->ext y+toE f y<=1099511627776
 low:f/2=0\/rk (f/2)<m
structure Fz (o:Own)(w:Wd)(sb:Nat)(d:Af)(s:BP)(rk:Nat->Nat)(ext:Nat->Int)(f:Nat)(m:Nat):Prop where
 st:Ap o w sb d s
 lt:Ac o w
 acy:Acy (Aa d) rk
 ok:okE (Aa d) f
 live:AD d ext
 top:∀y b,Aa d y=some b->Ak d y<=2199023255552
 pos:∀y b,Aa d y=some b->0<=ext y-toE f y
 low:f/2=0\/rk (f/2)<m
def Ap.tk_lt {o:Own}{w:Wd}{sb:Nat}{d:Af}{s:BP}(h:Ap o w sb d s){i:Nat}{b:BN}(hi:Aa d i=some b):0<i/\i<d.pool.at_.length/\d.pool.at_.length<=1048577:=by
 have h1:=h.pool.tk_lt (BQ hi).1;have h2:=h.pool.top;have h3:=h.pool.room;omega
def Ap.edge_lt {o:Own}(h:Ap o w sb d s)(H:okE (Aa d) f):f<2097156:=by
 rcases H with h0|⟨b,hb⟩
 . omega
 . have:=h.tk_lt hb;omega
def Lm {ext:Nat->Int}:addE ext f 1=bump ext (f/2) 1:=by
 funext y;unfold addE bump toE
 by_cases e:f/2=y
 . subst e;simp
 . simp[e,Ye e]
def Ln {ext:Nat->Int}:addE ext f (-1)=bump ext (f/2) (-1):=by
 funext y;unfold addE bump toE
 by_cases e:f/2=y
 . subst e;simp
 . simp[e,Ye e]
def Qv {o:Own}{ext:Nat->Int}{m:Nat}(h:Fy o w sb d s rk ext f m){b:BN}(hx:Aa d (enode f)=some b)(O:0<Ak d (enode f)):
 Cl 165 #[Pt sb,Iv f] w (BH o w sb d s rk m false (addE ext f 1)):=by
 have a:=h.st.edge_lt h.ok;have I:f<eMax:=by unfold eMax;omega
 have g5:=h.live.has _ _ hx;obtain⟨gc,cap,H,Y,g9,j,ge,X,g4⟩:=h.st.countsAt g5;obtain⟨A,c1,c2,n,z,f0⟩:=cells5 h.st.blk;rw[H]at n;have U:=g4 _ g5;have g:=X (enode f);have r:=h.live.cnt.le hx;have g6:=h.top _ _ hx;rw[show toE f (enode f)=1 from E9 f]at g6;have gk:=h.st.tk_lt hx;have g8:=h.st.tk_lt hx;have g3:Hq (∀i,m<=rk i->(d.counts.set (enode f) (Ak d (enode f)+1)).getD i 0=d.counts.getD i 0):=λi hi=>by
  have:enode f≠i:=by
   rintro rfl;rcases h.low with h0|h0
   . have:enode f=0:=h0;omega
   . have e:f/2=enode f:=rfl;rw[e]at h0;omega
  simp only[List.getD,Yb,Xu this]
 have g7:Hq (false=true->∀i,(d.counts.set (enode f) (Ak d (enode f)+1)).getD i 0<=d.counts.getD i 0):=λe=>(by cases e)
 have g0:Hq (Ap o (w.setCell ⟨gc,enode f,none⟩ (Iv ((Ak d (enode f)+1:Nat):Int))) sb (d.cd (d.counts.set (enode f) (Ak d (enode f)+1)) d.dead) s/\AD (d.cd (d.counts.set (enode f) (Ak d (enode f)+1)) d.dead) (addE ext f 1)):=
  ⟨h.st.setCount H g9 _ _,by rw[Lm];exact h.live.moreLive hx O⟩
 have g1:=Hd ((Chg.refl RCnt o w).setCell (p:=⟨gc,enode f,none⟩) Y (.inr rfl) (Iv ((Ak d (enode f)+1:Nat):Int)));rw[show((Ak d (enode f)+1:Nat):Int)=(Ak d (enode f):Nat)+1 from by omega]at g0 g1;have g2:((enode f:Nat):Int)≠0:=by have:=g8.1;omega
 have Z:=Hd (λW=>BJ f W I);have y:sb≠gc:=λe=>g9 e.symm
 have l:((enode f:Nat):Int)<d.counts.length:=by omega
 obtain⟨k,hk⟩:=Ex (enode f);obtain⟨c,gf⟩:=Ex (Ak d (enode f));have u:c<=2199023255552:=by omega
 have gt:0<c:=by omega
 rw[<-gf]at U g0 g1 g3 g7;rw[<-hk]at U g g0 g1 g2 Z l g3 g7;have t:((k:Int) == 0)=false:=by simpa using g2
 have go:0<k:=by omega
 have v:d.counts.length<=9223372036854775807:=by unfold maxLen at ge;omega
 have q:(1:Int)<(c:Int)+1:=by omega
 clear h hx O H Y j ge X g4 hk gf g6 g8 g2 g5 a I
 go_enter func165,ntmps165
 go_wp2_with fail;refine(Z.o _).mono ?_;rintro x w' ⟨rfl,rfl⟩;go_wp2_with fail;refine X2 (EH rfl _ _ _) rfl ⟨_,_,rfl,g0.o.1,g0.o.2,by simp,g3.o,(λe=>by first|exact absurd e (by decide)|exact g7.o (by simp)),g1.o⟩
def Qw {o:Own}{ext:Nat->Int}{m:Nat}(h:Fy o w sb d s rk ext f m)(hx:enode f=0):
 Cl 165 #[Pt sb,Iv f] w (BH o w sb d s rk m false (addE ext f 1)):=by
 have H:f<eMax:=by have:=h.st.edge_lt h.ok;unfold eMax;omega
 have g0:Hq (BH o w sb d s rk m false (addE ext f 1) (.returned (.tuple #[])) w):=
  ⟨d.counts,d.dead,rfl,h.st,h.live.congr (λy b hb=>by
   have:y≠0:=by rintro rfl;rw[h.acy.none0]at hb;cases hb
   have e:f/2=0:=hx;simp[addE,toE,e,Ye this]),rfl,λ_ _=>rfl,λ_ _=>Xs _,Chg.refl _ _ _⟩
 have I:=Hd (λW=>BJ f W H);rw[hx]at I;clear h hx H
 go_enter func165,ntmps165
 go_wp2_with fail;refine(I.o _).mono ?_;rintro x w' ⟨rfl,rfl⟩;go_wp2_with fail;refine X2 (EH rfl _ _ _) rfl g0.o
def Qx {o:Own}{ext:Nat->Int}{m:Nat}(h:Fy o w sb d s rk ext f (m+1)){b:BN}(hx:Aa d (enode f)=some b)(O:Ak d (enode f)=0)
 (g:∀w d ext f,Fy o w sb d s rk ext f m->Cl 165 #[Pt sb,Iv f] w (BH o w sb d s rk m false (addE ext f 1))):
 Cl 165 #[Pt sb,Iv f] w (BH o w sb d s rk (m+1) false (addE ext f 1)):=by
 have gS:=h.st.edge_lt h.ok;have J:f<eMax:=by unfold eMax;omega
 have A:=h.live.has _ _ hx;obtain⟨gc,cap,j,gt,gf,gO,gA,T,g5⟩:=h.st.countsAt A;obtain⟨c0,c1,c2,c3,c4,f0⟩:=cells5 h.st.blk;rw[j]at c3;have u:=g5 _ A;have S:=T (enode f);have gp:=h.st.tk_lt hx;obtain⟨Q,gq⟩:=h.live.moreDead hx O;have M:d.dead<=1048577:=by
  have h1:=h.live.dead;have h2:=Fx (f:=dead1 (Aa d) (Ak d)) (B:=1) d.pool.at_.length (λi _=>by unfold dead1;split<;>first|omega|(split<;>omega));have h3:Bb d.pool.at_.length (Aa d) (Ak d)=Ah d.pool.at_.length (dead1 (Aa d) (Ak d)):=rfl;omega
 have gV:=Hd h.lt;have gm:∀i,m+1<=rk i->(d.counts.set (enode f) 1).getD i 0=d.counts.getD i 0:=λi hi=>by
  have:enode f≠i:=by
   rintro rfl;rcases h.low with h0|h0
   . have:enode f=0:=h0;omega
   . have e:f/2=enode f:=rfl;rw[e]at h0;omega
  simp only[List.getD,Yb,Xu this]
 have gC:false=true->∀i,(d.counts.set (enode f) 1).getD i 0<=d.counts.getD i 0:=λe=>(by cases e)
 have gM:rk (enode f)<=m:=by
  rcases h.low with h0|h0
  . have:enode f=0:=h0;omega
  . have e:f/2=enode f:=rfl;rw[e]at h0;omega
 have g3:∀e,(okE (Aa d) e)->(∀c,Aa d (e/2)=some c->rk (e/2)<rk (enode f))->e/2=0\/rk (e/2)<m:=λe ho hr=>by
  rcases ho with h0|⟨c,O⟩
  . exact .inl h0
  . exact .inr (by have:=hr c O;omega)
 have I:Ap o (w.setCell ⟨gc,enode f,none⟩ (Iv ((1:Nat):Int))) sb (d.cd (d.counts.set (enode f) 1) d.dead) s:=h.st.setCount j gf _ _;have g2:Ac o (w.setCell ⟨gc,enode f,none⟩ (Iv ((1:Nat):Int))):=h.lt.mono (by simp[World.setCell]);have H:Ap o ((w.setCell ⟨gc,enode f,none⟩ (Iv ((1:Nat):Int))).setCell (Aw sb 4) (Iv ((d.dead-1:Nat):Int))) sb (d.cd (d.counts.set (enode f) 1) (d.dead-1)) s:=I.setDead g2 _;have gn:=Hd (((Chg.refl RCnt o w).setCell (p:=⟨gc,enode f,none⟩) gt (.inr rfl) (Iv ((1:Nat):Int))).setCell (p:=Aw sb 4) h.st.own (.inl rfl) (Iv ((d.dead-1:Nat):Int)));have g0:Ac o ((w.setCell ⟨gc,enode f,none⟩ (Iv ((1:Nat):Int))).setCell (Aw sb 4) (Iv ((d.dead-1:Nat):Int))):=g2.mono (by simp[World.setCell]);have ge:=BQ hx;have gT:∃N,N=d.pool.has (enode f)/\N.lo=b.lo/\N.hi=b.hi:=⟨_,rfl,by rw[<-ge.2.2];rfl,by rw[<-ge.2.2];rfl⟩;have R:addE (addE (addE (addE (bump ext (enode f) 1) b.lo (-1)) b.hi (-1)) b.lo 1) b.hi 1=addE ext f 1:=by
  funext y;have h1:=congrFun (Lm (ext:=ext) (f:=f)) y;have h2:enode f=f/2:=rfl;rw[h2,h1];simp only[addE];omega
 obtain⟨W2,gj⟩:∃W,W=(w.setCell ⟨gc,enode f,none⟩ (Iv ((1:Nat):Int))).setCell (Aw sb 4) (Iv ((d.dead-1:Nat):Int)):=⟨_,rfl⟩;rw[<-gj]at H gn g0;have gJ:=Hd g0;have g1:Hq (∀W:Wd,Bw W2 W->Cl 137 #[Pt s.pb,Iv (enode f:Nat)] W (Bl (.tuple #[Ao (d.pool.has (enode f)),.bool (d.pool.tk (enode f))]) W)):=
  Hd (λW hb=>Dz o s.pb d.pool (enode f) W (H.pool.below hb g0) (g0.mono hb.size))
 have gZ:Hq (∀W:Wd,Bw W2 W->W.cell? (Aw sb 1)=some (Pt s.pb)):=Hd (λW hb=>(cells5 (H.below g0 hb).blk).2.1);have gB:Hq (∀W:Wd,Bw W2 W->Cl 165 #[Pt sb,Iv (b.lo:Nat)] W (BH o W sb (d.cd (d.counts.set (enode f) 1) (d.dead-1)) s rk m false (addE (addE (addE (bump ext (enode f) 1) b.lo (-1)) b.hi (-1)) b.lo 1))):=
  Hd (λW hb=>g W _ _ b.lo ⟨H.below g0 hb,g0.mono hb.size,h.acy,h.acy.okLo _ _ hx,gq,λy q l=>by
   have h1:=h.top y q l;have h2:toE f y=if enode f=y then 1 else 0:=rfl
   have h3:=CE b.lo y;have h4:=CE b.hi y;simp only[addE,bump]
   by_cases e:y=enode f
   . rw[Xx e.symm]at h2;rw[Xx e];omega
   . rw[Xu (Ye e)]at h2;rw[Xu e];omega,g3 b.lo (h.acy.okLo _ _ hx) (λc O=>h.acy.ltLo _ _ c hx O)⟩)
 have gE:Hq (∀(W:Wd) (cs:List Nat) (U:Nat),Ap o W sb ((d.cd (d.counts.set (enode f) 1) (d.dead-1)).cd cs U) s->AD ((d.cd (d.counts.set (enode f) 1) (d.dead-1)).cd cs U) (addE (addE (addE (bump ext (enode f) 1) b.lo (-1)) b.hi (-1)) b.lo 1)->(false=true->∀i,cs.getD i 0<=(d.counts.set (enode f) 1).getD i 0)->Chg RCnt o o w W ->
  Cl 165 #[Pt sb,Iv (b.hi:Nat)] W (BH o W sb ((d.cd (d.counts.set (enode f) 1) (d.dead-1)).cd cs U) s rk m false (addE ext f 1))):=
  Hd (λW cs U hs hl V t=>by
   rw[<-R]
   exact g W _ _ b.hi ⟨hs,gV.o.mono t.size,h.acy,h.acy.okHi _ _ hx,hl,λy q l=>by
    have h1:=h.top y q l;have h2:toE f y=if enode f=y then 1 else 0:=rfl
    have h3:=CE b.lo y;have h4:=CE b.hi y;simp only[addE,bump]
    by_cases e:y=enode f
    . rw[Xx e.symm]at h2;rw[Xx e];omega
    . rw[Xu (Ye e)]at h2;rw[Xu e];omega,g3 b.hi (h.acy.okHi _ _ hx) (λc O=>h.acy.ltHi _ _ c hx O)⟩)
 have gL:Hq (∀(W:Wd) (cs:List Nat) (U:Nat),Ap o W sb (d.cd cs U) s->AD (d.cd cs U) (addE ext f 1)->cs.length=(d.counts.set (enode f) 1).length->(∀i,m+1<=rk i->cs.getD i 0=(d.counts.set (enode f) 1).getD i 0)->(false=true->∀i,cs.getD i 0<=(d.counts.set (enode f) 1).getD i 0)->Chg RCnt o o w W ->
  BH o w sb d s rk (m+1) false (addE ext f 1) (.returned (.tuple #[])) W):=
  λW cs U hs hl gH gN V t=>⟨cs,U,rfl,hs,hl,by rw[gH];simp,λi hi=>(gN i hi).trans (gm i hi),λe i=>Xz (V e i) (gC e i),t⟩
 have g9:Hq (W2=(w.setCell ⟨gc,enode f,none⟩ (Iv 1)).setCell (Aw sb 4) (Iv ((d.dead:Int)-1))):=by
  show _=_
  rw[gj,show((d.dead-1:Nat):Int)=(d.dead:Int)-1 from by omega];rfl
 have g4:((enode f:Nat):Int)≠0:=by have:=gp.1;omega
 have G:=Hd (λW=>BJ f W J);have gG:sb≠gc:=λe=>gf e.symm
 have ga:((enode f:Nat):Int)<d.counts.length:=by omega
 obtain⟨N,K,gk,gl⟩:=gT;rw[<-K]at g1;rw[<-gk,<-gl]at gB gE;obtain⟨B,L⟩:=Ex (d.pool.tk (enode f));rw[<-L]at g1;rw[O]at u;obtain⟨k,hk⟩:=Ex (enode f);rw[<-hk]at u S g1 g4 G ga g9;have gQ:((k:Int) == 0)=false:=by simpa using g4
 have gP:0<k:=by omega
 have gI:d.counts.length<=9223372036854775807:=by unfold maxLen at gA;omega
 obtain⟨dn,gy⟩:∃n,n=d.dead:=⟨_,rfl⟩;rw[<-gy]at c4 M g9 Q;clear g h hx O j gt gO gA T g5 gp g4 A gS J gq I H g2 g0 gm gC gM g3 gj R K gk gl L gy ge hk
 go_enter func165,ntmps165
 go_wp2_with fail;refine(G.o _).mono ?_;rintro x w' ⟨rfl,rfl⟩;go_wp2_with fail;rw[<-g9.o];refine(g1.o W2 (X7 _ _)).mono ?_;rintro x v2 ⟨rfl,g7⟩;unfold Ao;clear g9 c0 c1 c2 c3 c4 f0 u S G gf gG ga gQ gP gI M Q;go_wp2_with fail;obtain⟨W3,g8⟩:∃W,W=v2.alloc (.cells #[Iv N.id,Iv N.v,Iv N.lo,Iv N.hi,Iv N.refs] 203):=⟨_,rfl⟩;obtain⟨bx,g6⟩:=Ex v2.heap.size;have gR:W2.heap.size<=bx:=by rw[g6];exact g7.size
 have r:Bw W2 W3:=by rw[g8];exact g7.alloc g7.size _
 have z:W3.heap[bx]?=some (.cells #[Iv N.id,Iv N.v,Iv N.lo,Iv N.hi,Iv N.refs] 203 (0,0)):=by rw[g8,g6];exact Xv v2 _
 rw[<-g8];rw[<-g6];clear g8 g6 g7 g1 gZ;refine(gB.o _ r).mono ?_;rintro x w1 ⟨F,D,rfl,I,Y,len1,low1,a,chg1⟩;have go:=(chg1.alien (Xt.1 z).1 (gJ.o.none gR)).trans z;obtain⟨z0,z1,z2,z3,z4,zz⟩:=cells5 go;have gU:=Hd I;have gX:=Hd Y;have gY:=Hd len1;have HW1:=Hd low1;have gD:=Hd a;have gF:=Hd ((gn.o.trans (Chg.of_below r RCnt o)).trans chg1);clear I Y len1 low1 a chg1 z go r;go_wp2_with fail;refine(gE.o w1 F D gU.o gX.o (λe=>by first|exact absurd e (by decide)|exact gD.o (by simp)) gF.o).mono ?_;rintro x w2 ⟨E,C,rfl,H,X,len2,low2,Z,chg2⟩;have gK:=Hd (gL.o w2 E C H X (len2.trans gY.o) (λi hi=>(low2 i (by omega)).trans (HW1.o i (by omega))) (λe i=>by first|exact absurd e (by decide)|exact Xz (Z (by simp) i) (gD.o (by simp) i)) (gF.o.trans chg2));clear H X len2 low2 Z chg2;go_wp2_with fail;refine YW (EH rfl _ _ _) rfl gK.o
def IR (o:Own)(sb:Nat)(s:BP)(rk:Nat->Nat):∀(m:Nat) (w:Wd) (d:Af) (ext:Nat->Int) (f:Nat),Fy o w sb d s rk ext f m ->
 Cl 165 #[Pt sb,Iv f] w (BH o w sb d s rk m false (addE ext f 1))
 | m,w,d,ext,f,h=>by
   by_cases h0:enode f=0
   . exact Qw h h0
   ·obtain⟨b,hx⟩:∃b,Aa d (enode f)=some b:=h.ok.resolve_left h0
    by_cases H:0<Ak d (enode f)
    . exact Qv h hx H
    ·cases m with
     | zero=>exact absurd (h.low.resolve_left h0) (by omega)
     | succ m=>exact Qx h hx (by omega) (IR o sb s rk m)
def Qy {o:Own}{ext:Nat->Int}{m:Nat}(h:Fz o w sb d s rk ext f m){b:BN}(hx:Aa d (enode f)=some b)(O:1<Ak d (enode f)):
 Cl 150 #[Pt sb,Iv f] w (BH o w sb d s rk m true (addE ext f (-1))):=by
 have a:=h.st.edge_lt h.ok;have I:f<eMax:=by unfold eMax;omega
 have g4:=h.live.has _ _ hx;obtain⟨gc,cap,H,g9,g8,j,U,Y,g5⟩:=h.st.countsAt g4;obtain⟨z,c1,c2,n,y,f0⟩:=cells5 h.st.blk;rw[H]at n;have X:=g5 _ g4;have g:=Y (enode f);have l:=h.top (enode f) _ hx;have g7:=h.st.tk_lt hx;have g3:Hq (∀i,m<=rk i->(d.counts.set (enode f) (Ak d (enode f)-1)).getD i 0=d.counts.getD i 0):=λi hi=>by
  have:enode f≠i:=by
   rintro rfl;rcases h.low with h0|h0
   . have:enode f=0:=h0;omega
   . have e:f/2=enode f:=rfl;rw[e]at h0;omega
  simp only[List.getD,Yb,Xu this]
 have g6:Hq (true=true->∀i,(d.counts.set (enode f) (Ak d (enode f)-1)).getD i 0<=d.counts.getD i 0):=λ_ i=>by
  by_cases e:enode f=i
  . subst e;simp only[List.getD,Yb];simp[g4,Ak,List.getD]
  . simp only[List.getD,Yb,Xu e];omega
 have g0:Hq (Ap o (w.setCell ⟨gc,enode f,none⟩ (Iv ((Ak d (enode f)-1:Nat):Int))) sb (d.cd (d.counts.set (enode f) (Ak d (enode f)-1)) d.dead) s/\AD (d.cd (d.counts.set (enode f) (Ak d (enode f)-1)) d.dead) (addE ext f (-1))):=
  ⟨h.st.setCount H g8 _ _,by rw[Ln];exact h.live.lessLive hx O⟩
 have g1:=Hd ((Chg.refl RCnt o w).setCell (p:=⟨gc,enode f,none⟩) g9 (.inr rfl) (Iv ((Ak d (enode f)-1:Nat):Int)));rw[show((Ak d (enode f)-1:Nat):Int)=(Ak d (enode f):Nat)-1 from by omega]at g0 g1;have g2:((enode f:Nat):Int)≠0:=by have:=g7.1;omega
 have Z:=Hd (λW=>BJ f W I);have gk:sb≠gc:=λe=>g8 e.symm
 have gf:((enode f:Nat):Int)<d.counts.length:=by omega
 obtain⟨k,hk⟩:=Ex (enode f);obtain⟨c,ge⟩:=Ex (Ak d (enode f));have u:c<=2199023255552:=by omega
 have q:1<c:=by omega
 rw[<-ge]at X g0 g1 g3 g6;rw[<-hk]at X g g0 g1 g2 Z gf g3 g6;have go:((k:Int) == 0)=false:=by simpa using g2
 have t:0<k:=by omega
 have v:d.counts.length<=9223372036854775807:=by unfold maxLen at U;omega
 have r:(1:Int)<(c:Int):=by omega
 clear h hx O H g9 j U Y g5 hk ge l g7 g2 g4 a I
 go_enter func150,ntmps150
 go_wp2_with fail;refine(Z.o _).mono ?_;rintro x w' ⟨rfl,rfl⟩;go_wp2_with fail;refine X2 (EH rfl _ _ _) rfl ⟨_,_,rfl,g0.o.1,g0.o.2,by simp,g3.o,(λe=>by first|exact absurd e (by decide)|exact g6.o (by simp)),g1.o⟩
def Qz {o:Own}{ext:Nat->Int}{m:Nat}(h:Fz o w sb d s rk ext f m)(hx:enode f=0):
 Cl 150 #[Pt sb,Iv f] w (BH o w sb d s rk m true (addE ext f (-1))):=by
 have H:f<eMax:=by have:=h.st.edge_lt h.ok;unfold eMax;omega
 have g0:Hq (BH o w sb d s rk m true (addE ext f (-1)) (.returned (.tuple #[])) w):=
  ⟨d.counts,d.dead,rfl,h.st,h.live.congr (λy b hb=>by
   have:y≠0:=by rintro rfl;rw[h.acy.none0]at hb;cases hb
   have e:f/2=0:=hx;simp[addE,toE,e,Ye this]),rfl,λ_ _=>rfl,λ_ _=>Xs _,Chg.refl _ _ _⟩
 have I:=Hd (λW=>BJ f W H);rw[hx]at I;clear h hx H
 go_enter func150,ntmps150
 go_wp2_with fail;refine(I.o _).mono ?_;rintro x w' ⟨rfl,rfl⟩;go_wp2_with fail;refine X2 (EH rfl _ _ _) rfl g0.o
def Q0 {o:Own}{ext:Nat->Int}{m:Nat}(h:Fz o w sb d s rk ext f (m+1)){b:BN}(hx:Aa d (enode f)=some b)(O:Ak d (enode f)=1)
 (r:∀w d ext f,Fz o w sb d s rk ext f m->Cl 150 #[Pt sb,Iv f] w (BH o w sb d s rk m true (addE ext f (-1)))):
 Cl 150 #[Pt sb,Iv f] w (BH o w sb d s rk (m+1) true (addE ext f (-1))):=by
 have gR:=h.st.edge_lt h.ok;have K:f<eMax:=by unfold eMax;omega
 have g5:=h.live.has _ _ hx;obtain⟨gc,cap,t,V,C,gN,gA,T,g6⟩:=h.st.countsAt g5;obtain⟨c0,c1,c2,c3,c4,f0⟩:=cells5 h.st.blk;rw[t]at c3;have z:=g6 _ g5;have S:=T (enode f);have gr:=h.st.tk_lt hx;have gt:=h.live.lessDies hx O;have Q:d.dead<=1048577:=by
  have h1:=h.live.dead;have h2:=Fx (f:=dead1 (Aa d) (Ak d)) (B:=1) d.pool.at_.length (λi _=>by unfold dead1;split<;>first|omega|(split<;>omega));have h3:Bb d.pool.at_.length (Aa d) (Ak d)=Ah d.pool.at_.length (dead1 (Aa d) (Ak d)):=rfl;omega
 have gU:=Hd h.lt;have go:∀i,m+1<=rk i->(d.counts.set (enode f) 0).getD i 0=d.counts.getD i 0:=λi hi=>by
  have:enode f≠i:=by
   rintro rfl;rcases h.low with h0|h0
   . have:enode f=0:=h0;omega
   . have e:f/2=enode f:=rfl;rw[e]at h0;omega
  simp only[List.getD,Yb,Xu this]
 have j:true=true->∀i,(d.counts.set (enode f) 0).getD i 0<=d.counts.getD i 0:=λ_ i=>by
  by_cases e:enode f=i
  . subst e;simp only[List.getD,Yb];simp[g5]
  . simp only[List.getD,Yb,Xu e];omega
 have gL:rk (enode f)<=m:=by
  rcases h.low with h0|h0
  . have:enode f=0:=h0;omega
  . have e:f/2=enode f:=rfl;rw[e]at h0;omega
 have g3:∀e,(okE (Aa d) e)->(∀c,Aa d (e/2)=some c->rk (e/2)<rk (enode f))->e/2=0\/rk (e/2)<m:=λe ho hr=>by
  rcases ho with h0|⟨c,O⟩
  . exact .inl h0
  . exact .inr (by have:=hr c O;omega)
 have I:Ap o (w.setCell ⟨gc,enode f,none⟩ (Iv ((0:Nat):Int))) sb (d.cd (d.counts.set (enode f) 0) d.dead) s:=h.st.setCount t C _ _;have g2:Ac o (w.setCell ⟨gc,enode f,none⟩ (Iv ((0:Nat):Int))):=h.lt.mono (by simp[World.setCell]);have H:Ap o ((w.setCell ⟨gc,enode f,none⟩ (Iv ((0:Nat):Int))).setCell (Aw sb 4) (Iv ((d.dead+1:Nat):Int))) sb (d.cd (d.counts.set (enode f) 0) (d.dead+1)) s:=I.setDead g2 _;have gp:=Hd (((Chg.refl RCnt o w).setCell (p:=⟨gc,enode f,none⟩) V (.inr rfl) (Iv ((0:Nat):Int))).setCell (p:=Aw sb 4) h.st.own (.inl rfl) (Iv ((d.dead+1:Nat):Int)));have g0:Ac o ((w.setCell ⟨gc,enode f,none⟩ (Iv ((0:Nat):Int))).setCell (Aw sb 4) (Iv ((d.dead+1:Nat):Int))):=g2.mono (by simp[World.setCell]);have gf:=BQ hx;have gS:∃N,N=d.pool.has (enode f)/\N.lo=b.lo/\N.hi=b.hi:=⟨_,rfl,by rw[<-gf.2.2];rfl,by rw[<-gf.2.2];rfl⟩;have R:addE (addE (addE (addE (bump ext (enode f) (-1)) b.lo 1) b.hi 1) b.lo (-1)) b.hi (-1)=addE ext f (-1):=by
  funext y;have h1:=congrFun (Ln (ext:=ext) (f:=f)) y;have h2:enode f=f/2:=rfl;rw[h2,h1];simp only[addE];omega
 obtain⟨W2,gl⟩:∃W,W=(w.setCell ⟨gc,enode f,none⟩ (Iv ((0:Nat):Int))).setCell (Aw sb 4) (Iv ((d.dead+1:Nat):Int)):=⟨_,rfl⟩;rw[<-gl]at H gp g0;have gI:=Hd g0;have g1:Hq (∀W:Wd,Bw W2 W->Cl 137 #[Pt s.pb,Iv (enode f:Nat)] W (Bl (.tuple #[Ao (d.pool.has (enode f)),.bool (d.pool.tk (enode f))]) W)):=
  Hd (λW hb=>Dz o s.pb d.pool (enode f) W (H.pool.below hb g0) (g0.mono hb.size))
 have gY:Hq (∀W:Wd,Bw W2 W->W.cell? (Aw sb 1)=some (Pt s.pb)):=Hd (λW hb=>(cells5 (H.below g0 hb).blk).2.1);have gB:Hq (∀W:Wd,Bw W2 W->Cl 150 #[Pt sb,Iv (b.lo:Nat)] W (BH o W sb (d.cd (d.counts.set (enode f) 0) (d.dead+1)) s rk m true (addE (addE (addE (bump ext (enode f) (-1)) b.lo 1) b.hi 1) b.lo (-1)))):=
  Hd (λW hb=>r W _ _ b.lo ⟨H.below g0 hb,g0.mono hb.size,h.acy,h.acy.okLo _ _ hx,gt,λy q X=>Xz (j rfl y) (h.top y q X),λy q X=>by
   have h1:=h.pos y q X;have h2:toE f y=if enode f=y then 1 else 0:=rfl
   have h3:=CE b.lo y;have h4:=CE b.hi y;simp only[addE,bump]
   by_cases e:y=enode f
   . rw[Xx e.symm]at h2;rw[Xx e];omega
   . rw[Xu (Ye e)]at h2;rw[Xu e];omega,g3 b.lo (h.acy.okLo _ _ hx) (λc O=>h.acy.ltLo _ _ c hx O)⟩)
 have gD:Hq (∀(W:Wd) (cs:List Nat) (U:Nat),Ap o W sb ((d.cd (d.counts.set (enode f) 0) (d.dead+1)).cd cs U) s->AD ((d.cd (d.counts.set (enode f) 0) (d.dead+1)).cd cs U) (addE (addE (addE (bump ext (enode f) (-1)) b.lo 1) b.hi 1) b.lo (-1))->(true=true->∀i,cs.getD i 0<=(d.counts.set (enode f) 0).getD i 0)->Chg RCnt o o w W ->
  Cl 150 #[Pt sb,Iv (b.hi:Nat)] W (BH o W sb ((d.cd (d.counts.set (enode f) 0) (d.dead+1)).cd cs U) s rk m true (addE ext f (-1)))):=
  Hd (λW cs U hs hl A u=>by
   rw[<-R]
   exact r W _ _ b.hi ⟨hs,gU.o.mono u.size,h.acy,h.acy.okHi _ _ hx,hl,λy q X=>Xz (Xz (A rfl y) (j rfl y)) (h.top y q X),λy q X=>by
    have h1:=h.pos y q X;have h2:toE f y=if enode f=y then 1 else 0:=rfl
    have h3:=CE b.lo y;have h4:=CE b.hi y;simp only[addE,bump]
    by_cases e:y=enode f
    . rw[Xx e.symm]at h2;rw[Xx e];omega
    . rw[Xu (Ye e)]at h2;rw[Xu e];omega,g3 b.hi (h.acy.okHi _ _ hx) (λc O=>h.acy.ltHi _ _ c hx O)⟩)
 have gK:Hq (∀(W:Wd) (cs:List Nat) (U:Nat),Ap o W sb (d.cd cs U) s->AD (d.cd cs U) (addE ext f (-1))->cs.length=(d.counts.set (enode f) 0).length->(∀i,m+1<=rk i->cs.getD i 0=(d.counts.set (enode f) 0).getD i 0)->(true=true->∀i,cs.getD i 0<=(d.counts.set (enode f) 0).getD i 0)->Chg RCnt o o w W ->
  BH o w sb d s rk (m+1) true (addE ext f (-1)) (.returned (.tuple #[])) W):=
  λW cs U hs hl gG gM A u=>⟨cs,U,rfl,hs,hl,by rw[gG];simp,λi hi=>(gM i hi).trans (go i hi),λe i=>Xz (A e i) (j e i),u⟩
 have l:Hq (W2=(w.setCell ⟨gc,enode f,none⟩ (Iv 0)).setCell (Aw sb 4) (Iv ((d.dead:Int)+1))):=by
  show _=_
  rw[gl,show((d.dead+1:Nat):Int)=(d.dead:Int)+1 from by omega];rfl
 have g4:((enode f:Nat):Int)≠0:=by have:=gr.1;omega
 have J:=Hd (λW=>BJ f W K);have gF:sb≠gc:=λe=>C e.symm
 have gd:((enode f:Nat):Int)<d.counts.length:=by omega
 obtain⟨N,L,gm,gn⟩:=gS;rw[<-L]at g1;rw[<-gm,<-gn]at gB gD;obtain⟨B,M⟩:=Ex (d.pool.tk (enode f));rw[<-M]at g1;rw[O]at z;obtain⟨k,hk⟩:=Ex (enode f);rw[<-hk]at z S g1 g4 J gd l;have gP:((k:Int) == 0)=false:=by simpa using g4
 have gO:0<k:=by omega
 have gH:d.counts.length<=9223372036854775807:=by unfold maxLen at gA;omega
 obtain⟨dn,gy⟩:∃n,n=d.dead:=⟨_,rfl⟩;rw[<-gy]at c4 Q l;clear r h hx O t V gN gA T g6 gr g4 g5 gR K gt I H g2 g0 go j gL g3 gl R L gm gn M gy gf hk
 go_enter func150,ntmps150
 go_wp2_with fail;refine(J.o _).mono ?_;rintro x w' ⟨rfl,rfl⟩;go_wp2_with fail;rw[<-l.o];refine(g1.o W2 (X7 _ _)).mono ?_;rintro x v2 ⟨rfl,g8⟩;unfold Ao;clear l c0 c1 c2 c3 c4 f0 z S J C gF gd gP gO gH Q;go_wp2_with fail;obtain⟨W3,g9⟩:∃W,W=v2.alloc (.cells #[Iv N.id,Iv N.v,Iv N.lo,Iv N.hi,Iv N.refs] 203):=⟨_,rfl⟩;obtain⟨bx,g7⟩:=Ex v2.heap.size;have gQ:W2.heap.size<=bx:=by rw[g7];exact g8.size
 have gk:Bw W2 W3:=by rw[g9];exact g8.alloc g8.size _
 have ge:W3.heap[bx]?=some (.cells #[Iv N.id,Iv N.v,Iv N.lo,Iv N.hi,Iv N.refs] 203 (0,0)):=by rw[g9,g7];exact Xv v2 _
 rw[<-g9];rw[<-g7];clear g9 g7 g8 g1 gY;refine(gB.o _ gk).mono ?_;rintro x w1 ⟨G,E,rfl,I,Z,len1,low1,g,chg1⟩;have gq:=(chg1.alien (Xt.1 ge).1 (gI.o.none gQ)).trans ge;obtain⟨z0,z1,z2,z3,z4,zz⟩:=cells5 gq;have gT:=Hd I;have gV:=Hd Z;have gX:=Hd len1;have HW1:=Hd low1;have gC:=Hd g;have gE:=Hd ((gp.o.trans (Chg.of_below gk RCnt o)).trans chg1);clear I Z len1 low1 g chg1 ge gq gk;go_wp2_with fail;refine(gD.o w1 G E gT.o gV.o (λe=>by first|exact absurd e (by decide)|exact gC.o (by simp)) gE.o).mono ?_;rintro x w2 ⟨F,D,rfl,H,Y,len2,low2,a,chg2⟩;have gJ:=Hd (gK.o w2 F D H Y (len2.trans gX.o) (λi hi=>(low2 i (by omega)).trans (HW1.o i (by omega))) (λe i=>by first|exact absurd e (by decide)|exact Xz (a (by simp) i) (gC.o (by simp) i)) (gE.o.trans chg2));clear H Y len2 low2 a chg2;go_wp2_with fail;refine YW (EH rfl _ _ _) rfl gJ.o
def IS (o:Own)(sb:Nat)(s:BP)(rk:Nat->Nat):∀(m:Nat) (w:Wd) (d:Af) (ext:Nat->Int) (f:Nat),Fz o w sb d s rk ext f m ->
 Cl 150 #[Pt sb,Iv f] w (BH o w sb d s rk m true (addE ext f (-1)))
 | m,w,d,ext,f,h=>by
   by_cases h0:enode f=0
   . exact Qz h h0
   ·obtain⟨b,hx⟩:∃b,Aa d (enode f)=some b:=h.ok.resolve_left h0
    have I:0<Ak d (enode f):=h.live.cnt.pos_of_ext hx (by
     have h1:=h.pos _ _ hx;rw[show toE f (enode f)=1 from E9 f]at h1;omega)
    by_cases H:1<Ak d (enode f)
    . exact Qy h hx H
    ·cases m with
     | zero=>exact absurd (h.low.resolve_left h0) (by omega)
     | succ m=>exact Q0 h hx (by omega) (IS o sb s rk m)
def Bm (r:Role):Prop:=r=.pool\/r=.slots\/r=.taken\/r=.free
def Am (r:Role):Prop:=r=.store\/r=.levels\/r=.vars\/r=.level\/Bm r\/r=.tabs\/(∃v,r=.tab v\/r=.tmap v)\/r=.counts
section
variable {o:Own}
def Ap.setPool (h:Ap o w sb d s)(H:Ac o w){p':Ae}(U:Aq o' w' s.pb p')(I:Chg Bm o o' w w'):Ap o' w' sb { d with pool:=p' } s:=by
 have n:∀{r},r ≠ .pool->r ≠ .slots->r ≠ .taken->r ≠ .free->¬ Bm r:=λa b c d h=>by rcases h with h|h|h|h<;>contradiction
 exact⟨I.ext _ _ h.own,I.ext _ _ h.ownl,(I.same H h.own (n (by simp) (by simp) (by simp) (by simp))).trans h.blk,(I.same H h.ownl (n (by simp) (by simp) (by simp) (by simp))).trans h.lev,
  h.vars.chg I H (n (by simp) (by simp) (by simp) (by simp)),h.level.chg I H (n (by simp) (by simp) (by simp) (by simp)),U,h.tabs.chg I H (n (by simp) (by simp) (by simp) (by simp)),
  λv O=>(h.tab v O).chg I H (n (by simp) (by simp) (by simp) (by simp)) (n (by simp) (by simp) (by simp) (by simp)),h.counts.chg I H (n (by simp) (by simp) (by simp) (by simp)),h.len,h.tlen⟩
def Ap.setTab (h:Ap o w sb d s)(H:Ac o w){v:Nat}{O:Nat×Nat->Option Nat}(U:AS o' w' v (s.ts.getD v 0) O)(I:Chg (· = .tmap v) o o' w w'):Ap o' w' sb { d with tab:=λu=>if u=v then O else d.tab u } s:=by
 refine⟨I.ext _ _ h.own,I.ext _ _ h.ownl,(I.same H h.own (by simp)).trans h.blk,(I.same H h.ownl (by simp)).trans h.lev,
  h.vars.chg I H (by simp),h.level.chg I H (by simp),h.pool.chg I H (by simp) (by simp) (by simp) (by simp),h.tabs.chg I H (by simp),
  λu hu=>?_,h.counts.chg I H (by simp),h.len,h.tlen⟩
 dsimp only
 by_cases e:u=v
 . subst e;rw[Xx rfl];exact U
 . rw[Xu e];exact(h.tab u hu).chg I H (by simp) (by simpa using e)
end
def Al (d:Af):Nat->Int:=λi=>if d.pool.tk i=true then((d.pool.nd i).refs:Int)else 0
structure DM (d d':Af)(f:Nat)(sg:Int):Prop where
 vars:d'.vars=d.vars
 level:d'.level=d.level
 tab:d'.tab=d.tab
 nodes:Aa d'=Aa d
 many:d'.pool.many=d.pool.many
 free:d'.pool.free=d.pool.free
 room:d'.pool.room=d.pool.room
 len:d'.pool.at_.length=d.pool.at_.length
 clen:d'.counts.length=d.counts.length
 ext:∀i,i≠0->Al d' i=Al d i+sg*toE f i
 live:AD d' (Al d')
def DN (o:Own)(w:Wd)(sb:Nat)(d:Af)(s:BP)(f:Nat)(H:Int)(e:Ending)(w':Wd):Prop:=
 ∃d',e=.returned (Iv 0)/\Ap o w' sb d' s/\Ac o w'/\DM d d' f H/\Chg Am o o w w'
def IT:∀r,RCnt r->Am r:=λr h=>by rcases h with h|h<;>simp[Am,h]
def IU:∀r:Role,r=.slots->Am r:=λr h=>by simp[Am,Bm,h]
def RN.ref (n:RN)(k:Nat):RN:={ n with refs:=k }
def IV (hk:x<d.pool.at_.length)(H:d.pool.tk x=true):Aa { d with pool:=d.pool.setNd x ((d.pool.nd x).ref k) }=Aa d:=by
 funext i;unfold Aa;rw[Ae.setNd_get hk H]
 by_cases e:i=x
 . subst e;simp[Ae.get,H,RN.ref,bnOf]
 . rw[Xu e]
def Gz (hk:x<d.pool.at_.length)(H:d.pool.tk x=true):Al { d with pool:=d.pool.setNd x ((d.pool.nd x).ref k) }=λi=>if i=x then(k:Int)else Al d i:=by
 funext i;unfold Al;have h1:(d.pool.setNd x ((d.pool.nd x).ref k)).tk i=d.pool.tk i:=rfl;have h2:(d.pool.setNd x ((d.pool.nd x).ref k)).nd i=if i=x then(d.pool.nd x).ref k else d.pool.nd i:=Dw hk i
 dsimp only;rw[h1,h2]
 by_cases e:i=x
 . subst e;simp[H,RN.ref]
 . simp[e]
def De (H:d.pool.tk x=true):Al d x=((d.pool.nd x).refs:Int):=by simp[Al,H]
def Lo {ext:Nat->Int}(hk:x<d.pool.at_.length)(O:d.pool.tk x=true)(h:AD d ext):AD { d with pool:=d.pool.setNd x ((d.pool.nd x).ref k) } ext:=by
 have H:=IV (k:=k) hk O;have I:({ d with pool:=d.pool.setNd x ((d.pool.nd x).ref k) }:Af).pool.at_.length=d.pool.at_.length:=by simp[Ae.setNd]
 refine⟨?_,?_,?_⟩
 . rw[H,I];exact h.cnt
 . rw[H,I];exact h.dead
 . rw[H];exact h.has
def Q3 {o:Own}(h:Ap o w sb d s)(H:Ac o w)(hl:AD d (Al d))(f:Nat)(O:f<eMax)(hx:enode f=0):
 Cl 151 #[Pt sb,Iv f] w (DN o w sb d s f 1):=by
 obtain⟨c,c1,c2,y,v,f0⟩:=cells5 h.blk;have I:sb<w.heap.size:=Ad c;have g3:Hq (∀W:Wd,Bw w W->DN o w sb d s f 1 (.returned (Iv 0)) W):=λW hb=>
  ⟨d,rfl,h.below H hb,H.mono hb.size,⟨rfl,rfl,rfl,rfl,rfl,rfl,rfl,rfl,rfl,λi hi=>by
   have e:f/2=0:=hx;simp[toE,e,Ye hi],hl⟩,Chg.of_below hb _ _⟩
 have g1:(decide (enode f=0)||d.pool.tk (enode f))=true:=by rw[hx];rfl
 have g7:Hq (∀W:Wd,Bw w W->Cl 130 #[Pt sb,Iv f] W (Bl (.bool true) W)):=λW hb=>by
  have h1:=EG (h.below H hb) (H.mono hb.size) f O;rw[g1]at h1;exact h1
 have g4:d.pool.tk 0=false:=h.pool.zero;have g2:Hq (∀W:Wd,Bw w W->Cl 137 #[Pt s.pb,Iv (enode f:Nat)] W (Bl (.tuple #[Ao (d.pool.has (enode f)),.bool (d.pool.tk (enode f))]) W)):=
  Hd (λW hb=>Dz o s.pb d.pool (enode f) W (h.pool.below hb H) (H.mono hb.size))
 have g8:Hq (∀W:Wd,Bw w W->W.cell? (Aw sb 1)=some (Pt s.pb)):=Hd (λW hb=>(hb.cell (p:=Aw sb 1) I).trans c1);have Z:=Hd (λW=>BJ f W O);have g0:d.pool.tk (enode f)=false:=by rw[hx];exact g4
 obtain⟨N,b⟩:=Ex (d.pool.has (enode f));obtain⟨B,U⟩:=Ex (d.pool.tk (enode f));obtain⟨k,hk⟩:=Ex (enode f);rw[<-b,<-U,<-hk]at g2;rw[<-hk]at Z;have g:=Hd (U.trans g0);clear h H hl O hx g1 c c1 c2 y v f0 I g4 g0 b hk U
 go_enter func151,ntmps151
 go_wp2_with fail;refine(g7.o _ (X7 _ _)).mono ?_;rintro x w1 ⟨rfl,g6⟩;have g9:=Hd g6;clear g6;go_upto_region 5 with fail;refine El (w0:=w) (N:=N) (v0:=Pt sb) (v1:=Pt sb) (v2:=.pointer (some (Aw sb 1))) (v3:=Pt s.pb) (v4:=Iv f) (v5:=Iv k) (v6:=.tuple #[Ao N,.bool B]) (v7:=.tuple #[Ao N,.bool B]) (v8:=Ao N) (v9:=.bool B) (v12:=.bool B) rfl (by kernel_rfl) (by kernel_rfl) ⟨⟨rfl,rfl,rfl,rfl,rfl,rfl,rfl⟩,rfl,rfl,rfl,rfl,rfl,rfl⟩ rfl (by decide) (CB g9.o 1) (λW _=>Z.o W) (λW hb=>g2.o W hb) (λW hb=>?_) (λx W=>?_) (λx W X m=>?_) (λa W=>?_) (λbx W Y j l=>?_) (λbx A gc g5 q=>?_)
 . have z:=g8.o W hb;simp only[Ab];refine⟨?_,?_,?_,?_,?_⟩<;>go_simp
 . simp only[Ab];refine⟨?_,?_⟩<;>go_simp
 . subst m;simp only[Ab];unfold Ao;refine⟨?_,?_,?_⟩<;>go_simp
 . go_simp
 . subst l;obtain⟨e0,e1,e2,u,t,r⟩:=cells5 j;simp only[Ab];unfold Ao;refine⟨⟨_,_,_,rfl,DF (k:=0) r e0 e1 e2 u t _ _ _ _ _⟩,λW=>?_⟩;go_simp
 simp only[Ab];unfold Ao;obtain rfl:B=false:=g.o;have n:=Hd g5;clear g5 q g2 Z g7 g8 g9 g;go_wp2;go_ret;exact g3.o _ n.o
def Q4 {o:Own}(h:Ap o w sb d s)(H:Ac o w)(hl:AD d (Al d))(A:Acy (Aa d) rk)(f:Nat){b:BN}(hx:Aa d (enode f)=some b)
 (I:∀y b,Aa d y=some b->Al d y<1099511627776):
 Cl 151 #[Pt sb,Iv f] w (DN o w sb d s f 1):=by
 obtain⟨c0,c1,c2,c3,c4,f0⟩:=cells5 h.blk;have c:sb<w.heap.size:=Ad c0;have g9:okE (Aa d) f:=.inr ⟨b,hx⟩;have j:f<eMax:=by have:=h.edge_lt g9;unfold eMax;omega
 have g0:=BQ hx;have g3:=h.tk_lt hx;have gw:(d.pool.nd (enode f)).refs<1099511627776:=by have:=I _ _ hx;rw[De g0.1]at this;omega
 have U:(d.pool.nd (enode f)).id=enode f:=h.pool.id _ g0.1;have V:(decide (enode f=0)||d.pool.tk (enode f))=true:=by rw[g0.1];simp
 have E:Hq (∀W:Wd,Bw w W->Cl 130 #[Pt sb,Iv f] W (Bl (.bool true) W)):=λW hb=>by
  have h1:=EG (h.below H hb) (H.mono hb.size) f j;rw[V]at h1;exact h1
 have g2:Hq (∀W:Wd,Bw w W->Cl 137 #[Pt s.pb,Iv (enode f:Nat)] W (Bl (.tuple #[Ao (d.pool.has (enode f)),.bool (d.pool.tk (enode f))]) W)):=
  Hd (λW hb=>Dz o s.pb d.pool (enode f) W (h.pool.below hb H) (H.mono hb.size))
 have D:Hq (∀W:Wd,Bw w W->W.cell? (Aw sb 1)=some (Pt s.pb)):=Hd (λW hb=>(hb.cell (p:=Aw sb 1) c).trans c1);have t:=Hd (λW=>BJ f W j);obtain⟨r,O⟩:=Ex ((d.pool.nd (enode f)).refs)
 skip
 have T:Hq (∀W:Wd,Bw w W->Cl 149 #[Pt s.pb,Ao ((d.pool.nd (enode f)).ref (r+1))] W λx w'=>x=.returned (Iv 0)/\Ap o w' sb { d with pool:=d.pool.setNd (enode f) ((d.pool.nd (enode f)).ref (r+1)) } s/\Chg Am o o w w'/\Ac o w'):=λW hb=>by
  have gy:d.pool.tk ((d.pool.nd (enode f)).ref (r+1)).id=true:=by show d.pool.tk (d.pool.nd (enode f)).id=true;rw[U];exact g0.1
  refine(I5 o s.pb d.pool ((d.pool.nd (enode f)).ref (r+1)) W (h.pool.below hb H) (H.mono hb.size) gy).mono ?_;rintro e w' ⟨rfl,g,z,g6⟩;have e1:((d.pool.nd (enode f)).ref (r+1)).id=enode f:=U;rw[e1]at g;exact⟨rfl,(h.below H hb).setPool (H.mono hb.size) g (z.mono (λr O=>by simp[Bm,O])),(Chg.of_below hb _ _).trans (z.mono IU),g6⟩
 have g8:Hq (∀(W:Wd),Ap o W sb { d with pool:=d.pool.setNd (enode f) ((d.pool.nd (enode f)).ref (r+1)) } s->Ac o W->Chg Am o o w W ->
  Cl 165 #[Pt sb,Iv f] W λe w'=>e=.returned (.tuple #[])/\DN o w sb d s f 1 (.returned (Iv 0)) w'):=λW hs g6 gB=>by
  have g5:=IV (d:=d) (k:=r+1) g3.2.1 g0.1
  refine(IR o sb s rk (rk (enode f)+1) W _ (Al d) f ⟨hs,g6,by rw[g5];exact A,by rw[g5];exact g9,Lo g3.2.1 g0.1 hl,λy q u=>(by
   rw[g5]at u;have h1:=I y q u;have h2:toE f y<=1:=by unfold toE;split<;>omega
   omega),.inr (Nat.lt_succ_self _)⟩).mono ?_
  rintro e w' ⟨cs,dd,rfl,gv,gx,gA,_,_,Q⟩;refine⟨rfl,_,rfl,gv,g6.mono Q.size,⟨rfl,rfl,rfl,g5,rfl,rfl,rfl,by simp[Af.cd,Ae.setNd],gA,λi hi=>?_,gx.congr (λy b' hb'=>?_)⟩,gB.trans (Q.mono IT)⟩
  ·show Al { d with pool:=d.pool.setNd (enode f) ((d.pool.nd (enode f)).ref (r+1)) } i=_
   rw[Gz g3.2.1 g0.1];dsimp only;unfold toE
   by_cases e:i=enode f
   . have Z:f/2=i:=e.symm;rw[Xx e,Xx Z,e,De g0.1,<-O];omega
   ·have Z:¬ f/2=i:=λn=>e n.symm
    rw[Xu e,Xu Z];omega
  ·show Al { d with pool:=d.pool.setNd (enode f) ((d.pool.nd (enode f)).ref (r+1)) } y=_
   rw[Gz g3.2.1 g0.1];dsimp only;unfold addE toE
   by_cases e:y=enode f
   . have Z:f/2=y:=e.symm;rw[Xx e,Xx Z,e,De g0.1,<-O];omega
   ·have Z:¬ f/2=y:=λn=>e n.symm
    rw[Xu e,Xu Z];omega
 have G:d.pool.has (enode f)=d.pool.nd (enode f):=g0.2.1;rw[G]at g2;have gc:Hq (Ao ((d.pool.nd (enode f)).ref (r+1))=.agg #[Iv (d.pool.nd (enode f)).id,Iv (d.pool.nd (enode f)).v,Iv (d.pool.nd (enode f)).lo,Iv (d.pool.nd (enode f)).hi,Iv ((r:Int)+1)]):=by
  show _=_
  unfold Ao RN.ref;dsimp only;rw[show((r+1:Nat):Int)=(r:Int)+1 from by omega]
 rw[g0.1]at g2;rw[<-O]at gw;obtain⟨N,l⟩:=Ex (d.pool.nd (enode f));have J:N.refs=r:=by rw[l,O]
 rw[<-l]at g2 gc T g8;obtain⟨B,m⟩:=Ex true;rw[<-m]at g2;obtain⟨k,hk⟩:=Ex (enode f);rw[<-hk]at g2 t;have gt:=Hd m;have F:=Hd J;have gG:=Hd hk;clear h H hl A hx I j g0 V g3 U O G l m hk g9 c0 c1 c2 c3 c4 f0 c J
 go_enter func151,ntmps151
 go_wp2_with fail;refine(E.o _ (X7 _ _)).mono ?_;rintro x w1 ⟨rfl,gk⟩;have gF:=Hd gk;clear gk E;go_upto_region 5 with fail;refine El (w0:=w) (N:=N) (v0:=Pt sb) (v1:=Pt sb) (v2:=.pointer (some (Aw sb 1))) (v3:=Pt s.pb) (v4:=Iv f) (v5:=Iv k) (v6:=.tuple #[Ao N,.bool B]) (v7:=.tuple #[Ao N,.bool B]) (v8:=Ao N) (v9:=.bool B) (v12:=.bool B) rfl (by kernel_rfl) (by kernel_rfl) ⟨⟨rfl,rfl,rfl,rfl,rfl,rfl,rfl⟩,rfl,rfl,rfl,rfl,rfl,rfl⟩ rfl (by decide) (CB gF.o 1) (λW _=>t.o W) (λW hb=>g2.o W hb) (λW hb=>?_) (λx W=>?_) (λx W X hX=>?_) (λa W=>?_) (λbx W Y hz hY=>?_) (λbx W3 gz L S=>?_)
 . have M:=D.o W hb;simp only[Ab];refine⟨?_,?_,?_,?_,?_⟩<;>go_simp
 . simp only[Ab];refine⟨?_,?_⟩<;>go_simp
 . subst hX;simp only[Ab];unfold Ao;refine⟨?_,?_,?_⟩<;>go_simp
 . go_simp
 . subst hY;obtain⟨e0,e1,e2,e3,e4,fz⟩:=cells5 hz;simp only[Ab];unfold Ao;refine⟨⟨_,_,_,rfl,DF (k:=0) fz e0 e1 e2 e3 e4 _ _ _ _ _⟩,λW=>?_⟩;go_simp
 simp only[Ab];unfold Ao;obtain rfl:B=true:=gt.o;have g1:=S;unfold IN at g1;rw[F.o]at g1;have go:=Hd g1;have C:=Hd L;obtain⟨y0,y1,y2,y3,y4,yz⟩:=cells5 g1;clear S g1 L F g2 t gt;go_upto_region 8 with fail;have g4:=A2 (k:=4) go.o (Iv ((r:Int)+1));have g7:Bw w (W3.setCell (Aw bx 4) (Iv ((r:Int)+1))):=C.o.setCell (p:=Aw bx 4) gz _;obtain⟨W4,gl⟩:∃W,W=W3.setCell (Aw bx 4) (Iv ((r:Int)+1)):=⟨_,rfl⟩;rw[<-gl]at g4 g7⊢;clear gl go C y0 y1 y2 y3 y4 yz;simp at g4;obtain⟨z0,z1,z2,z3,z4,zz⟩:=cells5 g4;have M:=D.o _ g7;refine AJ (λw'=>w'=W4.drew) true 5 [(0,false),(1,false),(2,false),(3,false),(4,false),(5,true)] (by kernel_rfl) (by kernel_rfl) rfl ?_;simp only[planned,AI]
 iterate 5
  refine A0 rfl ?_;apply Exists.intro;refine⟨λw' hw=>?_,?_⟩
  . subst hw;go_simp;rfl
  simp only[Ab]
 refine DE rfl (λK hK=>?_);unfold Oper.wp;go_simp;rw[<-gc.o];refine(T.o _ (CB g7 1)).mono ?_;rintro x w5 ⟨rfl,ge,R,gf⟩;refine hK _ _ (C2 ?_);have gC:=Hd ge;have gE:=Hd R;have gD:=Hd gf;clear ge R gf g4 g7 z0 z1 z2 z3 z4 zz M;go_wp2_with fail;refine(g8.o _ gC.o gD.o gE.o).mono ?_;rintro x w6 ⟨rfl,g⟩;have HP:=Hd g;clear g;go_wp2;go_ret;exact HP.o
def Q5 {o:Own}(h:Ap o w sb d s)(H:Ac o w)(hl:AD d (Al d))(f:Nat)(O:f<eMax)(hx:enode f=0):
 Cl 120 #[Pt sb,Iv f] w (DN o w sb d s f (-1)):=by
 obtain⟨c,c1,c2,y,v,f0⟩:=cells5 h.blk;have I:sb<w.heap.size:=Ad c;have g3:Hq (∀W:Wd,Bw w W->DN o w sb d s f (-1) (.returned (Iv 0)) W):=λW hb=>
  ⟨d,rfl,h.below H hb,H.mono hb.size,⟨rfl,rfl,rfl,rfl,rfl,rfl,rfl,rfl,rfl,λi hi=>by
   have e:f/2=0:=hx;simp[toE,e,Ye hi],hl⟩,Chg.of_below hb _ _⟩
 have g1:(decide (enode f=0)||d.pool.tk (enode f))=true:=by rw[hx];rfl
 have g7:Hq (∀W:Wd,Bw w W->Cl 130 #[Pt sb,Iv f] W (Bl (.bool true) W)):=λW hb=>by
  have h1:=EG (h.below H hb) (H.mono hb.size) f O;rw[g1]at h1;exact h1
 have g4:d.pool.tk 0=false:=h.pool.zero;have g2:Hq (∀W:Wd,Bw w W->Cl 137 #[Pt s.pb,Iv (enode f:Nat)] W (Bl (.tuple #[Ao (d.pool.has (enode f)),.bool (d.pool.tk (enode f))]) W)):=
  Hd (λW hb=>Dz o s.pb d.pool (enode f) W (h.pool.below hb H) (H.mono hb.size))
 have g8:Hq (∀W:Wd,Bw w W->W.cell? (Aw sb 1)=some (Pt s.pb)):=Hd (λW hb=>(hb.cell (p:=Aw sb 1) I).trans c1);have Z:=Hd (λW=>BJ f W O);have g0:d.pool.tk (enode f)=false:=by rw[hx];exact g4
 obtain⟨N,b⟩:=Ex (d.pool.has (enode f));obtain⟨B,U⟩:=Ex (d.pool.tk (enode f));obtain⟨k,hk⟩:=Ex (enode f);rw[<-b,<-U,<-hk]at g2;rw[<-hk]at Z;have g:=Hd (U.trans g0);clear h H hl O hx g1 c c1 c2 y v f0 I g4 g0 b hk U
 go_enter func120,ntmps120
 go_wp2_with fail;refine(g7.o _ (X7 _ _)).mono ?_;rintro x w1 ⟨rfl,g6⟩;have g9:=Hd g6;clear g6;go_upto_region 5 with fail;refine El (w0:=w) (N:=N) (v0:=Pt sb) (v1:=Pt sb) (v2:=.pointer (some (Aw sb 1))) (v3:=Pt s.pb) (v4:=Iv f) (v5:=Iv k) (v6:=.tuple #[Ao N,.bool B]) (v7:=.tuple #[Ao N,.bool B]) (v8:=Ao N) (v9:=.bool B) (v12:=.bool B) rfl (by kernel_rfl) (by kernel_rfl) ⟨⟨rfl,rfl,rfl,rfl,rfl,rfl,rfl⟩,rfl,rfl,rfl,rfl,rfl,rfl⟩ rfl (by decide) (CB g9.o 1) (λW _=>Z.o W) (λW hb=>g2.o W hb) (λW hb=>?_) (λx W=>?_) (λx W X m=>?_) (λa W=>?_) (λbx W Y j l=>?_) (λbx A gc g5 q=>?_)
 . have z:=g8.o W hb;simp only[Ab];refine⟨?_,?_,?_,?_,?_⟩<;>go_simp
 . simp only[Ab];refine⟨?_,?_⟩<;>go_simp
 . subst m;simp only[Ab];unfold Ao;refine⟨?_,?_,?_⟩<;>go_simp
 . go_simp
 . subst l;obtain⟨e0,e1,e2,u,t,r⟩:=cells5 j;simp only[Ab];unfold Ao;refine⟨⟨_,_,_,rfl,DF (k:=0) r e0 e1 e2 u t _ _ _ _ _⟩,λW=>?_⟩;go_simp
 simp only[Ab];unfold Ao;obtain rfl:B=false:=g.o;have n:=Hd g5;clear g5 q g2 Z g7 g8 g9 g;go_wp2;go_ret;exact g3.o _ n.o
def Q6 {o:Own}(h:Ap o w sb d s)(H:Ac o w)(hl:AD d (Al d))(D:Acy (Aa d) rk)(f:Nat){b:BN}(hx:Aa d (enode f)=some b)
 (I:∀y b,Aa d y=some b->Al d y<1099511627776) (U:1<=Al d (enode f)) (l:∀y b,Aa d y=some b->Ak d y<=2199023255552):
 Cl 120 #[Pt sb,Iv f] w (DN o w sb d s f (-1)):=by
 obtain⟨c0,c1,c2,c3,c4,f0⟩:=cells5 h.blk;have g:sb<w.heap.size:=Ad c0;have g9:okE (Aa d) f:=.inr ⟨b,hx⟩;have n:f<eMax:=by have:=h.edge_lt g9;unfold eMax;omega
 have g0:=BQ hx;have g3:=h.tk_lt hx;have gw:(d.pool.nd (enode f)).refs<1099511627776:=by have:=I _ _ hx;rw[De g0.1]at this;omega
 have Z:(d.pool.nd (enode f)).id=enode f:=h.pool.id _ g0.1;have ga:(decide (enode f=0)||d.pool.tk (enode f))=true:=by rw[g0.1];simp
 have G:Hq (∀W:Wd,Bw w W->Cl 130 #[Pt sb,Iv f] W (Bl (.bool true) W)):=λW hb=>by
  have h1:=EG (h.below H hb) (H.mono hb.size) f n;rw[ga]at h1;exact h1
 have g2:Hq (∀W:Wd,Bw w W->Cl 137 #[Pt s.pb,Iv (enode f:Nat)] W (Bl (.tuple #[Ao (d.pool.has (enode f)),.bool (d.pool.tk (enode f))]) W)):=
  Hd (λW hb=>Dz o s.pb d.pool (enode f) W (h.pool.below hb H) (H.mono hb.size))
 have F:Hq (∀W:Wd,Bw w W->W.cell? (Aw sb 1)=some (Pt s.pb)):=Hd (λW hb=>(hb.cell (p:=Aw sb 1) g).trans c1);have A:=Hd (λW=>BJ f W n);obtain⟨r,O⟩:=Ex ((d.pool.nd (enode f)).refs);have gG:1<=r:=by rw[De g0.1]at U;omega
 have gb:Hq (∀W:Wd,Bw w W->Cl 149 #[Pt s.pb,Ao ((d.pool.nd (enode f)).ref (r-1))] W λx w'=>x=.returned (Iv 0)/\Ap o w' sb { d with pool:=d.pool.setNd (enode f) ((d.pool.nd (enode f)).ref (r-1)) } s/\Chg Am o o w w'/\Ac o w'):=λW hb=>by
  have gy:d.pool.tk ((d.pool.nd (enode f)).ref (r-1)).id=true:=by show d.pool.tk (d.pool.nd (enode f)).id=true;rw[Z];exact g0.1
  refine(I5 o s.pb d.pool ((d.pool.nd (enode f)).ref (r-1)) W (h.pool.below hb H) (H.mono hb.size) gy).mono ?_;rintro e w' ⟨rfl,j,C,g6⟩;have e1:((d.pool.nd (enode f)).ref (r-1)).id=enode f:=Z;rw[e1]at j;exact⟨rfl,(h.below H hb).setPool (H.mono hb.size) j (C.mono (λr O=>by simp[Bm,O])),(Chg.of_below hb _ _).trans (C.mono IU),g6⟩
 have g8:Hq (∀(W:Wd),Ap o W sb { d with pool:=d.pool.setNd (enode f) ((d.pool.nd (enode f)).ref (r-1)) } s->Ac o W->Chg Am o o w W ->
  Cl 150 #[Pt sb,Iv f] W λe w'=>e=.returned (.tuple #[])/\DN o w sb d s f (-1) (.returned (Iv 0)) w'):=λW hs g6 gB=>by
  have g4:=IV (d:=d) (k:=r-1) g3.2.1 g0.1
  refine(IS o sb s rk (rk (enode f)+1) W _ (Al d) f ⟨hs,g6,by rw[g4];exact D,by rw[g4];exact g9,Lo g3.2.1 g0.1 hl,λy q m=>l y q (by rw[g4]at m;exact m),λy q m=>(by
   rw[g4]at m
   by_cases e:enode f=y
   ·subst e;have h1:Al d (enode f)=(r:Int):=by rw[De g0.1,O]
    have h2:toE f (enode f)=1:=E9 f;rw[h1,h2];omega
   ·have h1:toE f y=0:=Xu e;have h2:0<=Al d y:=by unfold Al;split<;>omega
    rw[h1];omega),.inr (Nat.lt_succ_self _)⟩).mono ?_
  rintro e w' ⟨cs,dd,rfl,gv,gx,gA,_,_,S⟩;refine⟨rfl,_,rfl,gv,g6.mono S.size,⟨rfl,rfl,rfl,g4,rfl,rfl,rfl,by simp[Af.cd,Ae.setNd],gA,λi hi=>?_,gx.congr (λy b' hb'=>?_)⟩,gB.trans (S.mono IT)⟩
  ·show Al { d with pool:=d.pool.setNd (enode f) ((d.pool.nd (enode f)).ref (r-1)) } i=_
   rw[Gz g3.2.1 g0.1];dsimp only;unfold toE
   by_cases e:i=enode f
   . have c:f/2=i:=e.symm;rw[Xx e,Xx c,e,De g0.1,<-O];omega
   ·have c:¬ f/2=i:=λz=>e z.symm
    rw[Xu e,Xu c];omega
  ·show Al { d with pool:=d.pool.setNd (enode f) ((d.pool.nd (enode f)).ref (r-1)) } y=_
   rw[Gz g3.2.1 g0.1];dsimp only;unfold addE toE
   by_cases e:y=enode f
   . have c:f/2=y:=e.symm;rw[Xx e,Xx c,e,De g0.1,<-O];omega
   ·have c:¬ f/2=y:=λz=>e z.symm
    rw[Xu e,Xu c];omega
 have L:d.pool.has (enode f)=d.pool.nd (enode f):=g0.2.1;rw[L]at g2;have gc:Hq (Ao ((d.pool.nd (enode f)).ref (r-1))=.agg #[Iv (d.pool.nd (enode f)).id,Iv (d.pool.nd (enode f)).v,Iv (d.pool.nd (enode f)).lo,Iv (d.pool.nd (enode f)).hi,Iv ((r:Int)-1)]):=by
  show _=_
  unfold Ao RN.ref;dsimp only;rw[show((r-1:Nat):Int)=(r:Int)-1 from by omega]
 rw[g0.1]at g2;rw[<-O]at gw;obtain⟨N,t⟩:=Ex (d.pool.nd (enode f));have M:N.refs=r:=by rw[t,O]
 rw[<-t]at g2 gc gb g8;obtain⟨B,u⟩:=Ex true;rw[<-u]at g2;obtain⟨k,hk⟩:=Ex (enode f);rw[<-hk]at g2 A;have gt:=Hd u;have J:=Hd M;have gH:=Hd hk;clear h H hl D hx I n g0 ga g3 Z O L t u hk g9 c0 c1 c2 c3 c4 f0 g M U l
 go_enter func120,ntmps120
 go_wp2_with fail;refine(G.o _ (X7 _ _)).mono ?_;rintro x w1 ⟨rfl,gk⟩;have gF:=Hd gk;clear gk G;go_upto_region 5 with fail;refine El (w0:=w) (N:=N) (v0:=Pt sb) (v1:=Pt sb) (v2:=.pointer (some (Aw sb 1))) (v3:=Pt s.pb) (v4:=Iv f) (v5:=Iv k) (v6:=.tuple #[Ao N,.bool B]) (v7:=.tuple #[Ao N,.bool B]) (v8:=Ao N) (v9:=.bool B) (v12:=.bool B) rfl (by kernel_rfl) (by kernel_rfl) ⟨⟨rfl,rfl,rfl,rfl,rfl,rfl,rfl⟩,rfl,rfl,rfl,rfl,rfl,rfl⟩ rfl (by decide) (CB gF.o 1) (λW _=>A.o W) (λW hb=>g2.o W hb) (λW hb=>?_) (λx W=>?_) (λx W X hX=>?_) (λa W=>?_) (λbx W Y hz hY=>?_) (λbx W3 gz Q V=>?_)
 . have R:=F.o W hb;simp only[Ab];refine⟨?_,?_,?_,?_,?_⟩<;>go_simp
 . simp only[Ab];refine⟨?_,?_⟩<;>go_simp
 . subst hX;simp only[Ab];unfold Ao;refine⟨?_,?_,?_⟩<;>go_simp
 . go_simp
 . subst hY;obtain⟨e0,e1,e2,e3,e4,fz⟩:=cells5 hz;simp only[Ab];unfold Ao;refine⟨⟨_,_,_,rfl,DF (k:=0) fz e0 e1 e2 e3 e4 _ _ _ _ _⟩,λW=>?_⟩;go_simp
 simp only[Ab];unfold Ao;obtain rfl:B=true:=gt.o;have g1:=V;unfold IN at g1;rw[J.o]at g1;have go:=Hd g1;have E:=Hd Q;obtain⟨y0,y1,y2,y3,y4,yz⟩:=cells5 g1;clear V g1 Q J g2 A gt;go_upto_region 11 with fail;have g5:=A2 (k:=4) go.o (Iv ((r:Int)-1));have g7:Bw w (W3.setCell (Aw bx 4) (Iv ((r:Int)-1))):=E.o.setCell (p:=Aw bx 4) gz _;obtain⟨W4,gl⟩:∃W,W=W3.setCell (Aw bx 4) (Iv ((r:Int)-1)):=⟨_,rfl⟩;rw[<-gl]at g5 g7⊢;clear gl go E y0 y1 y2 y3 y4 yz;simp at g5;obtain⟨z0,z1,z2,z3,z4,zz⟩:=cells5 g5;have R:=F.o _ g7;refine AJ (λw'=>w'=W4.drew) true 5 [(0,false),(1,false),(2,false),(3,false),(4,false),(5,true)] (by kernel_rfl) (by kernel_rfl) rfl ?_;simp only[planned,AI]
 iterate 5
  refine A0 rfl ?_;apply Exists.intro;refine⟨λw' hw=>?_,?_⟩
  . subst hw;go_simp;rfl
  simp only[Ab]
 refine DE rfl (λK hK=>?_);unfold Oper.wp;go_simp;rw[<-gc.o];refine(gb.o _ (CB g7 1)).mono ?_;rintro x w5 ⟨rfl,ge,T,gf⟩;refine hK _ _ (C2 ?_);have gC:=Hd ge;have gE:=Hd T;have gD:=Hd gf;clear ge T gf g5 g7 z0 z1 z2 z3 z4 zz R;go_wp2_with fail;refine(g8.o _ gC.o gD.o gE.o).mono ?_;rintro x w6 ⟨rfl,j⟩;have HP:=Hd j;clear j;go_wp2;go_ret;exact HP.o
structure Lp (p p':Ae)(id:Nat)(n:RN):Prop where
 get:∀i,p'.get i=if i=id then some { n with id:=id }else p.get i
 none:p.tk id=false
 pos:0<id
 lt:id<p'.at_.length
 le:p.at_.length<=p'.at_.length
 many:p'.many=p.many+1
 room:p'.room=p.room
theorem Q7 (o:Own)(pb:Nat)(p:Ae)(n:RN)(w:Wd)(h:Aq o w pb p)(O:Ac o w):
 Cl 172 #[Pt pb,Ao n] w λx w'=>(p.many=p.room/\x=.returned (.tuple #[Iv 0,Iv 7])/\Bw w w') \/
  (∃id p' o',x=.returned (.tuple #[Iv (id:Nat),Iv 0])/\Aq o' w' pb p'/\Lp p p' id n/\Chg Bm o o' w w'/\Ac o' w'):=by
 rcases List.eq_nil_or_concat p.free with H|⟨fs,id,H⟩
 ·by_cases U:p.at_.length<=p.room
  . refine(PF o pb p n w h O H U).mono ?_;rintro e w' ⟨rfl,o',h1,h2,h3⟩;refine .inr ⟨_,_,o',rfl,h1,⟨λi=>Ae.fresh_get h.len i,?_,h.pos,by simp[Ae.fresh],by simp[Ae.fresh],rfl,rfl⟩,h2,h3⟩;simp[Ae.tk,List.getD,XC (Nat.le_of_eq h.len)]
  . refine(PE o pb p n w h H (by omega)).mono ?_;rintro e w' ⟨rfl,hb⟩;refine .inl ⟨?_,rfl,hb⟩;have h1:=h.many;have h2:=h.top;rw[H]at h1;simp at h1;omega
 . rw[List.concat_eq_append]at H;have I:=h.free id (by rw[H];simp);refine(PD o pb p n fs id w h O H).mono ?_;rintro e w' ⟨rfl,h1,h2,h3⟩;exact .inr ⟨id,_,o,rfl,h1,⟨λi=>Ae.reuse_get I.2.1 (by rw[h.len];exact I.2.1) i,I.2.2,I.1,by simp[Ae.reuse];exact I.2.1,by simp[Ae.reuse],rfl,rfl⟩,h2,h3⟩
structure Em (d d':Af)(id v lo hi:Nat):Prop where
 vars:d'.vars=d.vars
 level:d'.level=d.level
 tab:d'.tab=λu=>if u=v then putF (d.tab v) (lo,hi) (some id)else d.tab u
 nodes:Aa d'=addN (Aa d) id ⟨v,lo,hi⟩
 none:Aa d id=none
 pos:0<id
 many:d'.pool.many=d.pool.many+1
 room:d'.pool.room=d.pool.room
 ext:Al d'=λi=>if i=id then 0 else Al d i
 live:AD d' (Al d')
 clen:d'.counts.length<=1048578
 cnt:Ak d'=setC (Ak d) id 0
def Q8 (o:Own)(w:Wd)(sb:Nat)(d:Af)(v lo hi:Nat)(e:Ending)(w':Wd):Prop:=
 (d.pool.many=d.pool.room/\e=.returned (.tuple #[Iv 0,Iv 7])/\Bw w w') \/
 (∃id d' o',e=.returned (.tuple #[Iv (id:Nat),Iv 0])/\A3 o' w' sb d'/\Ac o' w'/\Em d d' id v lo hi/\Chg Am o o' w w')
theorem Q9 {c:Nat->Nat}{b:BN}(H:∀i b,N i=some b->i<k)(hk:k<=k')(O:N id=none)(I:id<k'):Bb k' (addN N id b) (setC c id 0)=Bb k N c+1:=by
 unfold Bb;rw[Dv (f:=dead1 N c) (j:=id) (λi hi=>?_) k' I]
 ·rw[KJ (k:=k) (λi hi=>?_) hk]
  . simp[dead1,O,Ci,setC]
  ·unfold dead1;cases e:N i with
   | none=>rfl
   | some U=>exact absurd (H i U e) (by omega)
 . unfold dead1;rw[Bh _ hi];simp only[setC,Xu hi]
section
variable {o:Own}
def Ap.setVc (h:Ap o w sb d s)(H:Ac o w){cs:List Nat}(U:RowR o' w' .counts 3 1 v cs.length (cs.map nat64))(O:Chg (· = .counts) o o' w w'):Ap o' (w'.setCell (Aw sb 3) v) sb (d.cd cs d.dead) { s with vc:=v }:=by
 have g0:=O.ext _ _ h.own;have ne:∀{b r},o' b=some r->r ≠ .store->b≠sb:=λhb U e=>by subst e;rw[g0]at hb;cases hb;exact U rfl
 have k1:∀{b r},o' b=some r->r ≠ .store->(w'.setCell (Aw sb 3) v).heap[b]?=w'.heap[b]?:=λhb U=>Az (ne hb U) _
 refine⟨g0,O.ext _ _ h.ownl,A2 (k:=3) ((O.same H h.own (by simp)).trans h.blk) _,(k1 (O.ext _ _ h.ownl) (by simp)).trans ((O.same H h.ownl (by simp)).trans h.lev),
  (h.vars.chg O H (by simp)).keep (λg I=>k1 I (by simp)) (λ_ h=>h),(h.level.chg O H (by simp)).keep (λg I=>k1 I (by simp)) (λ_ h=>h),
  (h.pool.chg O H (by simp) (by simp) (by simp) (by simp)).keep (λg r I U=>k1 I (by rcases U with rfl|rfl|rfl|rfl<;>simp)) (λ_ _ h=>h),
  (h.tabs.chg O H (by simp)).keep (λg I=>k1 I (by simp)) (λ_ h=>h),
  λu hu=>((h.tab u hu).chg O H (by simp) (by simp)).keep (λg r I U=>k1 I (by rcases U with rfl|rfl<;>simp)) (λ_ _ h=>h),
  U.keep (λg I=>k1 I (by simp)) (λ_ h=>h),h.len,h.tlen⟩
end
def Ap.tabAt {o:Own}(h:Ap o w sb d s){v:Nat}(I:v<d.vars.length):∃gt cap,s.vt=.slice (some (Av gt)) s.ts.length cap/\w.cell? (Aw gt v)=some (.pointer (some ⟨s.ts.getD v 0,0,none⟩))/\v<s.ts.length/\s.ts.length<=9223372036854775807:=by
 have g0:v<s.ts.length:=by rw[h.tlen];exact I
 obtain⟨gt,cap,g1,_,h1,h2⟩:=h.tabs.shape (by omega);have H:=h.tabs;rw[g1]at H;refine⟨gt,cap,g1,?_,g0,by unfold maxLen at h2;omega⟩;rw[H.cell v (by simpa using g0),Yq,Xy g0];simp[ptrV,List.getD,g0]
structure AddS (o:Own)(w:Wd)(sb:Nat)(d:Af)(ts:List Nat)(vt:Value)(o1:Own)(wx:Wd):Prop where
 st:∃s,Ap o1 wx sb d s/\s.ts=ts/\s.vt=vt
 lt:Ac o1 wx
 chg:Chg Am o o1 w wx
def QA:(prog.info? 3).map (λi=>(i.zero,i.size,i.bytes))=some (some (Iv 0),1,8):=by kernel_rfl
def padC (cs:List Nat)(j:Nat):List Nat:=cs++List.replicate j 0
def QB (cs:List Nat)(j:Nat):padC cs (j+1)=padC cs j++[0]:=by unfold padC;rw[List.replicate_succ',XF]
def F3 (cs:List Nat)(j:Nat):(padC cs j).length=cs.length+j:=by simp[padC]
def QC (cs:List Nat)(j i:Nat):(padC cs j).getD i 0=cs.getD i 0:=by
 unfold padC;simp only[List.getD,List.getElem?_append];split
 . rfl
 ·rename_i h
  rw[XC (l:=cs) (by omega),aA];split<;>rfl
def Af.added (d:Af)(p':Ae)(cs:List Nat)(id v lo hi:Nat):Af:=⟨d.vars,d.level,p',λu=>if u=v then putF (d.tab v) (lo,hi) (some id)else d.tab u,cs.set id 0,d.dead+1⟩
theorem QD {p':Ae}{v:Nat}(hl:AD d (Al d))(O:∀i b,Aa d i=some b->okE (Aa d) b.lo/\okE (Aa d) b.hi)(H:Lp d.pool p' id ⟨0,v,lo,hi,0⟩)
 (I:id<(padC d.counts j).length) (U:(padC d.counts j).length<=1048578):Em d (d.added p' (padC d.counts j) id v lo hi) id v lo hi:=by
 have g0:Aa d id=none:=by unfold Aa Ae.get;rw[Xu (by rw[H.none];simp)];rfl
 have g1:Aa (d.added p' (padC d.counts j) id v lo hi)=addN (Aa d) id ⟨v,lo,hi⟩:=by
  funext i;unfold Aa Af.added;dsimp only;rw[H.get]
  by_cases e:i=id
  . subst e;rw[Xx rfl,Ci];rfl
  . rw[Xu e,Bh _ e]
 have g4:∀i,p'.tk i=if i=id then true else d.pool.tk i:=λi=>by
  have h1:=H.get i;unfold Ae.get at h1
  by_cases e:i=id
  ·rw[Xx e]at h1⊢;split at h1
   . assumption
   . cases h1
  ·rw[Xu e]at h1⊢
   by_cases h2:p'.tk i=true<;>by_cases h3:d.pool.tk i=true<;>simp[h2,h3]at h1⊢
 have g3:Al (d.added p' (padC d.counts j) id v lo hi)=λi=>if i=id then 0 else Al d i:=by
  funext i;unfold Al;have h1:=H.get i
  show(if p'.tk i=true then((p'.nd i).refs:Int)else 0)=_
  rw[g4];unfold Ae.get at h1;rw[g4]at h1
  by_cases e:i=id
  . rw[Xx e]at h1;simp only[e,Y1]at h1⊢;have h2:=Yr h1;rw[h2];rfl
  ·rw[Xu e]at h1;simp only[Xu e]at h1⊢
   by_cases h3:d.pool.tk i=true
   . rw[Xx h3,Xx h3]at h1;rw[Xx h3,Xx h3,Yr h1]
   . rw[Xu h3,Xu h3]
 have g2:Ak (d.added p' (padC d.counts j) id v lo hi)=setC (Ak d) id 0:=by
  funext i;unfold Ak setC Af.added;dsimp only
  by_cases e:i=id
  . subst e;rw[Xx rfl];simp[List.getD,I]
  . rw[Xu e,<-QC d.counts j i];simp only[List.getD,Yb,Xu (Ye e)]
 have g5:id≠0:=by have:=H.pos;omega
 refine⟨rfl,rfl,rfl,g1,g0,H.pos,H.many,H.room,g3,⟨?_,?_,λi b hb=>?_⟩,by simpa [Af.added]using U,g2⟩
 ·rw[g1,g2,g3]
  show Cnt p'.at_.length _ _ _
  refine Cnt.add (hl.cnt.weaken H.le) g0 (λi X hb=>?_) H.lt;have h1:=O i X hb;constructor
  ·rcases h1.1 with h2|⟨c,h2⟩
   . omega
   . intro e;rw[e,g0]at h2;cases h2
  ·rcases h1.2 with h2|⟨c,h2⟩
   . omega
   . intro e;rw[e,g0]at h2;cases h2
 ·rw[g1,g2]
  show((d.dead+1:Nat):Int)=Bb p'.at_.length _ _
  rw[Q9 hl.cnt.lt H.le g0 H.lt,<-hl.dead];omega
 ·rw[g1]at hb
  show i<((padC d.counts j).set id 0).length
  rw[XE]
  by_cases e:i=id
  . subst e;exact I
  . rw[Bh _ e]at hb;have:=hl.has i b hb;rw[F3];omega
theorem Lq {o:Own}(h:Ap o w sb d s)(H:Ac o w)(hl:AD d (Al d))(z:∀i b,Aa d i=some b->okE (Aa d) b.lo/\okE (Aa d) b.hi)
 (v lo hi:Nat) (q:v<d.vars.length) (ht:d.tab v (lo,hi)=none) (hcl:d.counts.length<=1048578):
 Cl 155 #[Pt sb,Iv v,Iv lo,Iv hi] w (Q8 o w sb d v lo hi):=by
 obtain⟨k,c1,c2,O,g,f0⟩:=cells5 h.blk;have gg:=Hd (Q7 o s.pb d.pool ⟨0,v,lo,hi,0⟩ w h.pool H);have h8:Hq (Ao ⟨0,v,lo,hi,0⟩=.agg #[Iv 0,Iv v,Iv lo,Iv hi,Iv 0]):=rfl;have HH:=Hd h;have ha:=Hd H;have gO:=Hd (λp' id j I h1 h2=>QD (p':=p') (id:=id) (v:=v) (lo:=lo) (hi:=hi) (j:=j) hl z I h1 h2);have gz:Hq (d.dead<=1048577):=by
  show _<=_
  have h1:=hl.dead;have h2:=Fx (f:=dead1 (Aa d) (Ak d)) (B:=1) d.pool.at_.length (λi _=>by unfold dead1;split<;>first|omega|(split<;>omega));have h3:Bb d.pool.at_.length (Aa d) (Ak d)=Ah d.pool.at_.length (dead1 (Aa d) (Ak d)):=rfl;have h4:=h.pool.top;have h5:=h.pool.room;omega
 have HV:=Hd q;have HT:=Hd ht;clear h H hl z q ht
 go_enter func155,ntmps155
 go_wp2_with fail;rw[<-h8.o];refine gg.o.mono ?_;rintro x w1 (⟨hm,rfl,hb⟩|⟨id,p',o1,rfl,y,I,G,g7⟩)
 ·have HM:=Hd hm;have HB:=Hd hb;clear hm hb;go_wp2
  go_ret2
  exact .inl ⟨HM.o,rfl,HB.o⟩
 ·have m:=HH.o.setPool ha.o y G;have gT:=y.tk_lt (i:=id) (by have h1:=I.get id;unfold Ae.get at h1;rw[Xx rfl]at h1;split at h1;(· assumption);cases h1);have gR:=y.top;have gS:=y.room;have gI:Hq (AddS o w sb { d with pool:=p' } s.ts s.vt o1 w1):=⟨⟨s,m,rfl,rfl⟩,g7,G.mono (λr I=>by simp[Am,I])⟩;have HR:=Hd I;have hq:id<=1048577:=by omega
  clear y I G g7 m gg gT gR gS k c1 c2 O g f0;go_wp2
  go_loopg [] (id+1-d.counts.length) (λgk wx=>∃(j:Nat) (o2:Own),AddS o w sb { d with pool:=p',counts:=padC d.counts j } s.ts s.vt o2 wx/\j+gk=id+1-d.counts.length)
  case atStart=>exact⟨0,o1,by have e:padC d.counts 0=d.counts:=by { simp[padC] };rw[e];exact gI.o,by omega⟩
  case round=>
   obtain⟨j,o2,hS,F⟩:=hrel;obtain⟨⟨X,g0,S,g4⟩,D,gf⟩:=hS;clear gI;obtain⟨k,c1,c2,O,g,f0⟩:=cells5 g0.blk;have lsb:sb<wr.heap.size:=Ad k;have g6:(padC d.counts j).length<=1048578:=by rw[F3];omega
   have g9:=Hd g0;have C:=Hd D;have gK:=Hd gf;have h0:=Hd S;have gY:=Hd g4
   by_cases H:(padC d.counts j).length<=id
   ·obtain⟨a,cap,q,hz,gH,ho,_⟩:=g0.counts.slice;have g3:X.vc=.slice a (padC d.counts j).length cap:=q;rw[g3]at O;have HJ:=Hd F;have K:RowR o2 wr .counts 3 1 (.slice a (padC d.counts j).length cap) (padC d.counts j).length ((padC d.counts j).map nat64):=by have:=g0.counts;rw[g3]at this;exact this
    have hy:0<gk:=by rw[F3]at H;omega
    have E:((padC d.counts j).length:Int)<=id:=by omega
    obtain⟨cl,g2⟩:∃n,n=(padC d.counts j).length:=⟨_,rfl⟩;rw[<-g2]at g6 H E O K;have gP:=Hd K;have hg:=Hd g2;clear g0 D gf S g4 q g3 K F g2
    go_wp2_with (at_builtin
                 refine Fu 22 3 1 8 _ underlying22 QA rfl (by decide) rfl _ _ rfl rfl rfl rfl (by simp) rfl (λu hu=>by simp at hu;subst hu;rfl) gP.o C.o (by omega) (by decide) ?_;intro g1 k1 w2 o3 gC M g7;obtain⟨q0,q1,q2,q3,q4,fq⟩:=cells5 ((M.same C.o g9.o.own (by simp)).trans g9.o.blk);have h9:=Hd gC;have J:=Hd M;have he:=Hd g7;clear gC M g7 k c1 c2 O g f0)
    have Q:=h9.o;rw[show(padC d.counts j).map nat64++(#[Value.int .i64 0]:Array Value).toList=(padC d.counts (j+1)).map nat64 from by rw[QB,XG];rfl]at Q;have e1:cl+1=(padC d.counts (j+1)).length:=by rw[hg.o,F3,F3];omega
    have gN:=Hd (g9.o.setVc (cs:=padC d.counts (j+1)) C.o (by rw[<-e1];exact Q) J.o);have h7:Hq (AddS o w sb { d with pool:=p',counts:=padC d.counts (j+1) } s.ts s.vt o3 (w2.setCell (Aw sb 3) (.slice (some (Av g1)) (cl+1) k1))):=⟨⟨_,gN.o,h0.o,gY.o⟩,he.o.mono (by simp[World.setCell]),(gK.o.trans (J.o.mono (λr I=>by simp[Am,I]))).setCell (p:=Aw sb 3) (J.o.ext _ _ g9.o.own) (.inl rfl) _⟩;clear Q e1
    go_roundg (gk-1)
    case measure=>omega
    case rel=>exact⟨j+1,o3,h7.o,by have:=HJ.o;omega⟩
   ·have g5:id<(padC d.counts j).length:=by omega
    have E:(id:Int)<(padC d.counts j).length:=by omega
    obtain⟨gc,cap,T,gE,go,gU,gH,gF,ge⟩:=g0.countsAt g5;have g3:X.vc=.slice (some (Av gc)) (padC d.counts j).length cap:=T;rw[g3]at O;have gX:=ge _ g5;have gV:=gF id;have gL:sb≠gc:=λe=>go e.symm
    have l:=g0.setCount T go id 0;have Z:Ac o2 (wr.setCell (Aw gc id) (Iv ((0:Nat):Int))):=D.mono (by simp[World.setCell]);have U:=l.setDead Z (d.dead+1);have Y:Ac o2 ((wr.setCell (Aw gc id) (Iv ((0:Nat):Int))).setCell (Aw sb 4) (Iv ((d.dead+1:Nat):Int))):=Z.mono (by simp[World.setCell]);have c:=(gf.setCell (p:=Aw gc id) gE (by simp[Am]) (Iv ((0:Nat):Int))).setCell (p:=Aw sb 4) g0.own (by simp[Am]) (Iv ((d.dead+1:Nat):Int));have gG:d.dead<=1048577:=gz.o;have g8:(padC d.counts j).length<=9223372036854775807:=by omega
    obtain⟨W4,gu⟩:∃W,W=(wr.setCell (Aw gc id) (Iv ((0:Nat):Int))).setCell (Aw sb 4) (Iv ((d.dead+1:Nat):Int)):=⟨_,rfl⟩;rw[<-gu]at U Y c;have L:Hq (W4=(wr.setCell (Aw gc id) (Iv 0)).setCell (Aw sb 4) (Iv ((d.dead:Int)+1))):=by
     show _=_
     rw[gu,show((d.dead+1:Nat):Int)=(d.dead:Int)+1 from by omega];rfl
    have A:=Hd U;have gJ:=Hd Y;have hk:=Hd c;have hf:=Hd g5;obtain⟨cl,g2⟩:∃n,n=(padC d.counts j).length:=⟨_,rfl⟩;rw[<-g2]at E O g6 g8;have gQ:Hq ((padC d.counts j).length<=1048578):=by show _<=_;omega
    obtain⟨dn,gp⟩:∃n,n=d.dead:=⟨_,rfl⟩;have V:wr.cell? (Aw sb 4)=some (Iv (dn:Nat)):=by rw[gp];exact g
    rw[<-gp]at gG L;clear g0 D gf S g4 T gE go gU gH gF ge g3 l Z U Y c gu H g5 g g2 gp g9 C gK F;have gM:¬ ((cl:Int)<=id):=by omega
    go_upto_region 8 with fail;rw[<-L.o];clear L k c1 c2 O V f0 gX gV gL E gM gG g6 g8;obtain⟨k,c1,c2,O,g,f0⟩:=cells5 A.o.blk;obtain⟨gt,ct,g4,cellv,gA⟩:=A.o.tabAt (v:=v) HV.o;rw[g4]at c2;have gB:=A.o.tab v (by rw[A.o.tlen];exact HV.o);have gw:=Hd (KU o2 v (X.ts.getD v 0) (d.tab v) lo hi id W4 gB gJ.o HT.o);have hn:(v:Int)<X.ts.length:=by omega
    obtain⟨tv,gj⟩:∃t,t=X.ts.getD v 0:=⟨_,rfl⟩;rw[<-gj]at cellv gw;have gZ:=Hd gj;have hw:X.ts.length<=9223372036854775807:=gA.2;clear gB gj g4 gA;go_wp2_with fail;refine gw.o.mono ?_;rintro x w5 ⟨rfl,R,N,gD⟩;rw[gZ.o]at R;have h6:=Hd (A.o.setTab gJ.o R N);have hd:=Hd gD;have hh:=Hd (hk.o.trans (N.mono (λr I=>by simp[Am,I])));clear R N gD k c1 c2 O g f0 cellv;go_wp2
    go_ret2
    exact .inr ⟨id,d.added p' (padC d.counts j) id v lo hi,o2,rfl,⟨X,h6.o⟩,hd.o,gO.o p' id j HR.o hf.o gQ.o,hh.o⟩
def levN (d:Af)(v:Nat):Nat:=d.level.getD v 0
structure Ai (d:Af)(V:Nat->BF):Prop where
 dag:Dag d.vars.length (levN d) (Aa d) V
 live:AD d (Al d)
 tab:∀v,v<d.vars.length->∀lo hi id,d.tab v (lo,hi)=some id↔Aa d id=some ⟨v,lo,hi⟩
 clen:d.counts.length<=1048578
 small:d.vars.length<=64
 inv:∀v,v<d.vars.length->d.vars.getD (levN d v) 0=v
 vlt:∀i,i<d.vars.length->d.vars.getD i 0<d.vars.length/\levN d (d.vars.getD i 0)=i
structure Ext (d:Af)(V:Nat->BF)(d':Af)(V':Nat->BF):Prop where
 vars:d'.vars=d.vars
 level:d'.level=d.level
 room:d'.pool.room=d.pool.room
 nodes:∀i b,Aa d i=some b->Aa d' i=some b
 val:∀i,(i=0\/∃b,Aa d i=some b)->V' i=V i
 ext:∀i b,Aa d i=some b->Al d' i=Al d i
 ext0:∀i,Aa d i=none->Al d' i=0
 many:d.pool.many<=d'.pool.many
def EI (h:Aa d i=none):Al d i=0:=by unfold Al;rw[IQ h];simp
def Ext.refl (d:Af)(V:Nat->BF):Ext d V d V:=⟨rfl,rfl,rfl,λ_ _ h=>h,λ_ _=>rfl,λ_ _ _=>rfl,λ_ h=>EI h,Xs _⟩
theorem Ext.trans {d d' I:Af}{V V' O:Nat->BF}(h:Ext d V d' V')(H:Ext d' V' I O):Ext d V I O:=by
 refine⟨H.vars.trans h.vars,H.level.trans h.level,H.room.trans h.room,λi b hb=>H.nodes i b (h.nodes i b hb),λi hi=>?_,λi b hb=>?_,λi hi=>?_,Xz h.many H.many⟩
 . rw[H.val i (hi.imp id λ⟨b,hb⟩=>⟨b,h.nodes i b hb⟩)];exact h.val i hi
 . rw[H.ext i b (h.nodes i b hb)];exact h.ext i b hb
 ·cases e:Aa d' i with
  | none=>exact H.ext0 i e
  | some b=>rw[H.ext i b e];exact h.ext0 i hi
section
theorem Ext.ok (h:Ext d V d' V')(H:okE (Aa d) e):okE (Aa d') e:=H.imp id λ⟨b,hb⟩=>⟨b,h.nodes _ b hb⟩
def Ext.ef (h:Ext d V d' V'){e:Nat}(H:okE (Aa d) e):ef V' e=ef V e:=by
 funext ρ;unfold Go.Proofs.YtnphndlbfeagbaaGreat.ef;rw[h.val (e/2) H]
def Ext.lev (h:Ext d V d' V'):levN d'=levN d:=by funext v;unfold levN;rw[h.level]
def Ext.lvE (h:Ext d V d' V'){n:Nat}{e:Nat}(H:okE (Aa d) e)(h0:Aa d 0=none)(I:Aa d' 0=none):lvE n (levN d') (Aa d') e=lvE n (levN d) (Aa d) e:=by
 unfold Go.Proofs.YtnphndlbfeagbaaGreat.lvE;rw[h.lev];rcases H with H|⟨b,hb⟩
 . rw[H,h0,I]
 . rw[hb,h.nodes _ b hb]
theorem QE {v:Nat}(h:Ai d V)(r:Em d d' id v lo hi)(g:v<d.vars.length)(c:okE (Aa d) lo)(f:okE (Aa d) hi)
 (Y:levN d v<lvE d.vars.length (levN d) (Aa d) lo) (Z:levN d v<lvE d.vars.length (levN d) (Aa d) hi) (k:hi%2=0) (a:lo≠hi) (j:d.tab v (lo,hi)=none):
 Ai d' (addV V id ⟨v,lo,hi⟩)/\Ext d V d' (addV V id ⟨v,lo,hi⟩):=by
 have g1:∀i,Aa d i≠some ⟨v,lo,hi⟩:=λi e=>by rw[(h.tab v g lo hi i).2 e]at j;cases j
 have hl:levN d'=levN d:=by funext u;unfold levN;rw[r.level]
 have O:id≠0:=by have:=r.pos;omega
 refine⟨⟨?_,r.live,λu hu X g0 i=>?_,r.clen,by rw[r.vars];exact h.small,?_,?_⟩,⟨r.vars,r.level,r.room,λi b hb=>?_,λi g0=>?_,λi b hb=>?_,λi g0=>?_,by rw[r.many];omega⟩⟩
 . rw[r.vars,hl,r.nodes];exact h.dag.add r.none O g c f Y Z k a g1
 ·rw[r.vars]at hu;rw[r.tab,r.nodes];dsimp only
  by_cases e:u=v
  ·subst e;rw[Xx rfl];unfold putF
   by_cases e2:(X,g0)=(lo,hi)
   ·cases e2;rw[Xx rfl];constructor
    . intro U;cases U;rw[Ci]
    ·intro U
     by_cases H:i=id
     . rw[H]
     . rw[Bh _ H]at U;exact absurd U (g1 i)
   ·rw[Xu e2,h.tab u hu]
    by_cases H:i=id
    ·subst H;rw[Ci,r.none];constructor
     . intro I;cases I
     . intro I;cases I;exact absurd rfl e2
    . rw[Bh _ H]
  ·rw[Xu e,h.tab u hu]
   by_cases H:i=id
   ·subst H;rw[Ci,r.none];constructor
    . intro I;cases I
    . intro I;cases I;exact absurd rfl e
   . rw[Bh _ H]
 . rw[r.vars,hl];exact h.inv
 . rw[r.vars,hl];exact h.vlt
 . rw[r.nodes];exact Iy r.none hb
 ·unfold addV;rw[Xu];rintro rfl;rcases g0 with g0|⟨b,hb⟩
  . exact O g0
  . rw[r.none]at hb;cases hb
 . rw[r.ext];dsimp only;rw[Xu];rintro rfl;rw[r.none]at hb;cases hb
 ·rw[r.ext];dsimp only;split
  . rfl
  . exact EI g0
theorem Lr (h:Ai d V){v:Nat}(hb:Aa d id=some ⟨v,eflip lo (eneg hi),eflip hi (eneg hi)⟩):ef V (eflip (2*id) (eneg hi))=iteF v (ef V hi) (ef V lo):=by
 funext ρ;have h1:=h.dag.eqn id _ hb;have h2:ef V (2*id)=V id:=by
  funext ρ;have e1:2*id/2=id:=by omega
  have e2:2*id%2=0:=by omega
  simp[ef,e1,e2]
 rw[CD,h2,h1];simp only[iteF];rw[CD,CD];cases ρ v<;>cases eneg hi<;>simp
def Ls (hi:Nat):eflip hi (eneg hi)%2=0:=by
 unfold eflip eneg;rcases Y4 hi with h|h
 . simp[h]
 . simp[h,Gg]
def G0 {b:Bool}(h:lo≠hi):eflip lo b≠eflip hi b:=by
 unfold eflip;cases b
 . simpa using h
 . simp only[Y1];intro e;have:=Yf enot e;rw[KH,KH]at this;exact h this
def DO {lev:Nat->Nat}{b:Bool}:lvE n lev N (eflip e b)=lvE n lev N e:=by unfold lvE;rw[Dt]
end
def CG (d:Af)(v:Int):Int:=if 0<=v/\v<d.level.length then(levN d v.toNat:Nat)else -1
def QG (d:Af)(v:Nat):CG d v=d.levelOf v:=by
 unfold CG Af.levelOf levN
 by_cases h:v<d.level.length
 . rw[Xx ⟨by omega,by omega⟩,Xx h];rfl
 . rw[Xu (by omega),Xu h]
def QH {o:Own}(h:Ap o w sb d s)(v:Int)(H:v<0):
 Cl 128 #[Pt s.lb,Iv v] w (Sm (Iv (-1)) w):=by
 clear h
 go_enter func128,ntmps128
 go_wp2;go_ret;exact⟨rfl,rfl⟩
def QI {o:Own}(h:Ap o w sb d s)(v:Int)(H:v<0):
 Cl 85 #[Pt sb,Iv v] w (Sm (Iv (-1)) w):=by
 obtain⟨X,c1,c2,U,O,f0⟩:=cells5 h.blk;have I:=Hd (QH h v H);clear h H
 go_enter func85,ntmps85
 go_wp2_with fail;refine I.o.mono ?_;rintro x w' ⟨rfl,rfl⟩;go_wp2;go_ret;exact⟨rfl,rfl⟩
def IW {o:Own}(h:Ap o w sb d s)(v:Int)(H:d.level.length<1000000):
 Cl 85 #[Pt sb,Iv v] w (Sm (Iv (CG d v)) w):=by
 by_cases h0:v<0
 ·have e:CG d v= -1:=by unfold CG;rw[Xu (by omega)]
  rw[e];exact QI h v h0
 . obtain⟨n,rfl⟩:=Int.eq_ofNat_of_zero_le (by omega:0<=v);have e:=QG d n;rw[e];exact IL h n H
def IX (o:Own)(w:Wd)(sb:Nat)(d:Af)(V:Nat->BF)(v:Int)(lo hi:Nat)(e:Ending)(w':Wd):Prop:=
 (¬ (0<=v/\v<d.vars.length)/\e=.returned (.tuple #[Iv 0,Iv 9])/\Bw w w') \/
 (0<=v/\v<d.vars.length/\(lvE d.vars.length (levN d) (Aa d) lo<=levN d v.toNat\/lvE d.vars.length (levN d) (Aa d) hi<=levN d v.toNat)/\e=.returned (.tuple #[Iv 0,Iv 10])/\Bw w w') \/
 (d.pool.many=d.pool.room/\e=.returned (.tuple #[Iv 0,Iv 7])/\Bw w w') \/
 (0<=v/\v<d.vars.length/\∃r d' V' o',e=.returned (.tuple #[Iv (r:Nat),Iv 0])/\A3 o' w' sb d'/\Ac o' w'/\Ai d' V'/\Ext d V d' V'/\okE (Aa d') r /\
  ef V' r=iteF v.toNat (ef V hi) (ef V lo)/\levN d v.toNat<=lvE d.vars.length (levN d') (Aa d') r/\d'.pool.many<=d.pool.many+1/\Chg Am o o' w w')
def QJ {o:Own}(h:Ap o w sb d s)(hk:Ai d V)(O:okE (Aa d) f){lv:Nat}(hl:lv<d.vars.length):
 (decide (enode f=0)||(d.pool.tk (enode f)&&decide ((lv:Int)<d.levelOf (d.pool.has (enode f)).v)))=decide (lv<lvE d.vars.length (levN d) (Aa d) f):=by
 unfold lvE;rcases O with h0|⟨b,hb⟩
 . have e:enode f=0:=h0;rw[h0,hk.dag.none0,e];simp[hl]
 ·have H:=BQ (i:=enode f) hb;have e0:enode f≠0:=by have:=(h.tk_lt (i:=enode f) hb).1;omega
  rw[hb,H.1];have I:(d.pool.has (enode f)).v=b.v:=by rw[<-H.2.2];rfl
  have g0:=hk.dag.var _ _ hb;rw[I];unfold Af.levelOf;rw[Xx (by rw[h.len];exact g0)];simp[e0,levN]
def Lt (H:okE (Aa d) f):(decide (enode f=0)||d.pool.tk (enode f))=true:=by
 rcases H with h0|⟨b,hb⟩
 . have e:enode f=0:=h0;simp[e]
 . rw[(BQ (i:=enode f) hb).1];simp
def QK {o:Own}(h:Ap o w sb d s)(hk:Ai d V)(v:Int)(lo hi:Nat)(H:¬ (0<=v/\v<d.vars.length)):
 Cl 132 #[Pt sb,Iv v,Iv lo,Iv hi] w (IX o w sb d V v lo hi):=by
 have g0:=Hd (IW h v (by rw[h.len];have:=hk.small;omega));have e:CG d v= -1:=by unfold CG;rw[Xu (by rw[h.len];exact H)]
 rw[e]at g0;have I:=Hd H;clear h hk e H
 go_enter func132,ntmps132
 go_wp2_with fail;refine g0.o.mono ?_;rintro x w' ⟨rfl,rfl⟩;go_wp2
 go_ret2
 exact .inl ⟨I.o,rfl,X7 _ _⟩
section
variable {o:Own}
abbrev YG:=@of_decide_eq_true
abbrev Yh:=@results_tmp2
theorem QL (h:Ap o w sb d s)(H:Ac o w)(hk:Ai d V)(v lo hi:Nat)(k:v<d.vars.length)(U:okE (Aa d) lo)(X:okE (Aa d) hi){P:Ending->Wd->Prop}
 (h1:¬ (levN d v<lvE d.vars.length (levN d) (Aa d) lo/\levN d v<lvE d.vars.length (levN d) (Aa d) hi)->∀W,Bw w W->P (.returned (.tuple #[Iv 0,Iv 10])) W)
 (h2:levN d v<lvE d.vars.length (levN d) (Aa d) lo->levN d v<lvE d.vars.length (levN d) (Aa d) hi->(lo=hi->∀W,Bw w W->P (.returned (.tuple #[Iv (lo:Nat),Iv 0])) W) /\
  (lo≠hi->(∀id,d.tab v (eflip lo (eneg hi),eflip hi (eneg hi))=some id->∀W,Bw w W->P (.returned (.tuple #[Iv (eflip (2*id) (eneg hi):Nat),Iv 0])) W) /\
   (d.tab v (eflip lo (eneg hi),eflip hi (eneg hi))=none->(∀W,Bw w W->d.pool.many=d.pool.room->P (.returned (.tuple #[Iv 0,Iv 7])) W) /\
    ∀W W' id d' o',Bw w W->A3 o' W' sb d'->Ac o' W'->Em d d' id v (eflip lo (eneg hi)) (eflip hi (eneg hi))->Chg Am o o' W W'->P (.returned (.tuple #[Iv (eflip (2*id) (eneg hi):Nat),Iv 0])) W'))):
 Cl 132 #[Pt sb,Iv v,Iv lo,Iv hi] w P:=by
 have gA:levN d v<d.vars.length:=hk.dag.lt v k;have gJ:=h.edge_lt U;have gK:=h.edge_lt X;have G:lo<eMax:=by unfold eMax;omega
 have E:hi<eMax:=by unfold eMax;omega
 have F:d.level.length<1000000:=by rw[h.len];have:=hk.small;omega
 obtain⟨bl,gf⟩:∃b,b=decide (levN d v<lvE d.vars.length (levN d) (Aa d) lo):=⟨_,rfl⟩;obtain⟨bh,gg⟩:∃b,b=decide (levN d v<lvE d.vars.length (levN d) (Aa d) hi):=⟨_,rfl⟩;have g7:Hq (∀W:Wd,Bw w W->Cl 85 #[Pt sb,Iv v] W (Sm (Iv (levN d v:Nat)) W)):=λW hb=>by
  have h1:=IL (h.below H hb) v F;unfold Af.levelOf at h1;rw[Xx (by rw[h.len];exact k)]at h1;exact h1
 have y:Hq (∀W (f:Nat),Bw w W->okE (Aa d) f->Cl 130 #[Pt sb,Iv f] W (Bl (.bool true) W)):=λW f hb Y=>by
  have gM:=h.edge_lt Y;have h1:=EG (h.below H hb) (H.mono hb.size) f (by unfold eMax;omega);rw[Lt Y]at h1;exact h1
 have D:Hq (∀W (f:Nat),Bw w W->okE (Aa d) f->Cl 152 #[Pt sb,Iv f,Iv (levN d v:Nat)] W (Bl (.bool (decide (levN d v<lvE d.vars.length (levN d) (Aa d) f))) W)):=λW f hb Y=>by
  have gM:=h.edge_lt Y;have h1:=Qt (h.below H hb) (H.mono hb.size) f (by unfold eMax;omega) (levN d v:Nat) F;rw[QJ h hk Y gA]at h1;exact h1
 have q:=Hd λW hb=>D.o W lo hb U
 have p:=Hd λW hb=>D.o W hi hb X
 have R:=Hd λW hb=>y.o W lo hb U
 have Q:=Hd λW hb=>y.o W hi hb X
 rw[<-gf]at q;rw[<-gg]at p;have z:Hq ((bl&&bh)=false->∀W,Bw w W->P (.returned (.tuple #[Iv 0,Iv 10])) W):=Hd λe=>h1 λc=>by
  rw[gf,gg,XQ c.1,XQ c.2]at e;cases e
 have A:Hq (bl=true->bh=true->_):=Hd λe1 e2=>h2 (YG (by rw[<-gf];exact e1)) (YG (by rw[<-gg];exact e2))
 obtain⟨l,hl⟩:=Ex (levN d v);rw[<-hl]at g7 q p;have gR:¬ ((l:Nat):Int)<0:=by omega
 have j:=Hd h;have g8:=Hd H;have J:=Hd k;have g:=Hd hk;clear h H hk k U X gA gJ gK F hl h1 h2 gf gg D y
 go_enter func132,ntmps132
 go_wp2_with fail;refine(g7.o _ (X7 _ _)).mono ?_;rintro x w' ⟨rfl,rfl⟩;go_wp2_with fail;refine(R.o _ (X7 _ _)).mono ?_;rintro x w1 ⟨rfl,T⟩;have u:=Hd T;clear T;go_wp2_with fail;refine(Q.o _ u.o).mono ?_;rintro x w2 ⟨rfl,gG⟩;have HB2:=Hd (u.o.trans (gG.mono u.o.size));clear gG;go_wp2_with fail;refine(g7.o _ HB2.o).mono ?_;rintro x w' ⟨rfl,rfl⟩;go_wp2_with fail;refine(q.o _ HB2.o).mono ?_;rintro x w3 ⟨rfl,gF⟩;have g9:=Hd (HB2.o.trans (gF.mono HB2.o.size));clear gF;cases bl with
 | false=>
   go_wp2_with fail;have a:=Hd (z.o (by first|rfl|trivial) _ g9.o)
   first|exact a.o|exact X2 (Yh rfl _ _ _) rfl a.o
 | true=>
   go_wp2_with fail;refine(g7.o _ g9.o).mono ?_;rintro x w' ⟨rfl,rfl⟩;go_wp2_with fail;refine(p.o _ g9.o).mono ?_;rintro x w4 ⟨rfl,gE⟩;have g0:=Hd (g9.o.trans (gE.mono g9.o.size));clear gE;cases bh with
   | false=>
     go_wp2_with fail;have a:=Hd (z.o (by first|rfl|trivial) _ g0.o)
     first|exact a.o|exact X2 (Yh rfl _ _ _) rfl a.o
   | true=>
     have B:=Hd (A.o (by first|rfl|trivial) (by first|rfl|trivial)).1;have gk:=Hd (A.o (by first|rfl|trivial) (by first|rfl|trivial)).2;clear z A g7 R Q q p
     by_cases Z:lo=hi
     ·subst Z;have I:=Hd (B.o rfl _ g0.o);clear gk B;go_wp2_with fail
      first|exact I.o|exact X2 (Yh rfl _ _ _) rfl I.o
     ·have go:=Hd (gk.o Z).1;have n:=Hd (gk.o Z).2;have gP:((lo:Int) == hi)=false:=by simp;omega
      have g1:=Hd (λW=>I0 lo hi W G E);have m:=Hd (λid W (hh:id<2305843009213693952)=>I1 id (eneg hi) W hh);obtain⟨gt,ct,M,cellv,gL,gQ⟩:=(j.o.below g8.o g0.o).tabAt J.o;obtain⟨c0,c1,c2,c3,c4,f0⟩:=cells5 (j.o.below g8.o g0.o).blk;rw[M]at c2;have gO:(v:Int)<s.ts.length:=by omega
      have ge:=(j.o.below g8.o g0.o).tab v gL;clear M gk B;cases O:d.tab v (eflip lo (eneg hi),eflip hi (eneg hi))with
      | some id=>
        have gc:=(j.o.tk_lt ((g.o.tab v J.o _ _ id).1 O)).2;have g4:=Hd (IG o v (s.ts.getD v 0) (d.tab v) (eflip lo (eneg hi)) (eflip hi (eneg hi)) id _ ge O);have I:=Hd (go.o id O _ g0.o);have S:=Hd (λW=>m.o id W (by omega));obtain⟨tv,g5⟩:∃t,t=s.ts.getD v 0:=⟨_,rfl⟩;rw[<-g5]at cellv g4;obtain⟨lo2,g2⟩:∃x,x=eflip lo (eneg hi):=⟨_,rfl⟩;obtain⟨gC,g3⟩:∃x,x=eflip hi (eneg hi):=⟨_,rfl⟩;obtain⟨ng,g6⟩:∃x,x=eneg hi:=⟨_,rfl⟩;rw[<-g2,<-g3]at g1 g4;rw[<-g6]at g1 S I;clear ge g5 O gc m go n g2 g3 g6 G E Z;go_wp2_with fail;refine(g1.o _).mono ?_;rintro x w' ⟨rfl,rfl⟩;go_wp2_with fail;refine g4.o.mono ?_;rintro x w' ⟨rfl,rfl⟩;go_wp2_with fail;refine(S.o _).mono ?_;rintro x w' ⟨rfl,rfl⟩;go_wp2_with fail
        first|exact I.o|exact X2 (Yh rfl _ _ _) rfl I.o
      | none=>
        have g4:=Hd (II o v (s.ts.getD v 0) (d.tab v) (eflip lo (eneg hi)) (eflip hi (eneg hi)) _ ge O);have N:=Hd (Lq (j.o.below g8.o g0.o) (g8.o.mono g0.o.size) g.o.live (λi b hb=>⟨g.o.dag.okLo i b hb,g.o.dag.okHi i b hb⟩) v (eflip lo (eneg hi)) (eflip hi (eneg hi)) J.o O g.o.clen);have gN:=Hd (n.o O).1;have C:=Hd (n.o O).2;obtain⟨tv,g5⟩:∃t,t=s.ts.getD v 0:=⟨_,rfl⟩;rw[<-g5]at cellv g4;obtain⟨lo2,g2⟩:∃x,x=eflip lo (eneg hi):=⟨_,rfl⟩;obtain⟨gC,g3⟩:∃x,x=eflip hi (eneg hi):=⟨_,rfl⟩;obtain⟨ng,g6⟩:∃x,x=eneg hi:=⟨_,rfl⟩;rw[<-g2,<-g3]at g1 g4 N C;rw[<-g6]at g1 m C;clear ge g5 O go n g2 g3 g6 G E Z;go_wp2_with fail;refine(g1.o _).mono ?_;rintro x w' ⟨rfl,rfl⟩;go_wp2_with fail;refine g4.o.mono ?_;rintro x w' ⟨rfl,rfl⟩;go_wp2_with fail;refine N.o.mono ?_;rintro x w6 (⟨K,rfl,gD⟩|⟨id,d',o',rfl,hs,gB,r,L⟩)
        ·have I:=Hd (gN.o _ (g0.o.trans (gD.mono g0.o.size)) K);clear K gD c0 c1 c2 c3 c4 f0 cellv;go_wp2_with fail
         first|exact I.o|exact X2 (Yh rfl _ _ _) rfl I.o
        ·have I:=Hd (C.o _ _ id d' o' g0.o hs gB r L);have gc:id<2305843009213693952:=by
          obtain⟨s',hs'⟩:=hs;have:=hs'.tk_lt (i:=id) (b:=⟨v,lo2,gC⟩) (by rw[r.nodes,Ci]);omega
         clear hs gB r L c0 c1 c2 c3 c4 f0 cellv;go_wp2_with fail;refine(m.o _ _ gc).mono ?_;rintro x w' ⟨rfl,rfl⟩;go_wp2_with fail
         first|exact I.o|exact X2 (Yh rfl _ _ _) rfl I.o
abbrev YH:=@Int.toNat_natCast
theorem QM (h:A3 o w sb d)(H:Ac o w)(hk:Ai d V)(v:Int)(lo hi:Nat)(I:okE (Aa d) lo)(U:okE (Aa d) hi):
 Cl 132 #[Pt sb,Iv v,Iv lo,Iv hi] w (IX o w sb d V v lo hi):=by
 obtain⟨s,h⟩:=h
 by_cases g1:0<=v/\v<d.vars.length
 ·obtain⟨n,rfl⟩:=Int.eq_ofNat_of_zero_le g1.1;have X:n<d.vars.length:=by omega
  refine QL h H hk n lo hi X I U (λc W hb=>.inr (.inl ⟨by omega,by omega,by rw[YH];omega,rfl,hb⟩)) λg2 g3=>⟨λZ W hb=>?_,λZ=>⟨λid O W hb=>?_,λO=>⟨λW hb a=>.inr (.inr (.inl ⟨a,rfl,hb⟩)),λW W' id d' o' hb hs hl Y b=>?_⟩⟩⟩
  . subst Z;exact .inr (.inr (.inr ⟨by omega,by omega,lo,d,V,o,rfl,⟨s,h.below H hb⟩,H.mono hb.size,hk,Ext.refl d V,I,by funext ρ;simp[iteF],aD g2,by omega,Chg.of_below hb _ _⟩))
  ·have g0:=(hk.tab n X _ _ id).1 O
   exact .inr (.inr (.inr ⟨by omega,by omega,_,d,V,o,rfl,⟨s,h.below H hb⟩,H.mono hb.size,hk,Ext.refl d V,Du (D9 g0),
    Lr hk g0,by rw[DO];unfold lvE;rw[show 2*id/2=id from by omega,g0];exact Xs _,by omega,Chg.of_below hb _ _⟩))
  ·obtain⟨h1,h2⟩:=QE hk Y X (Du I) (Du U) (by rw[DO];exact g2) (by rw[DO];exact g3) (Ls hi) (G0 Z) O;have g0:Aa d' id=some ⟨n,eflip lo (eneg hi),eflip hi (eneg hi)⟩:=by rw[Y.nodes,Ci]
   refine .inr (.inr (.inr ⟨by omega,by omega,_,d',_,o',rfl,hs,hl,h1,h2,Du (D9 g0),?_,?_,by rw[Y.many];omega,(Chg.of_below hb _ _).trans b⟩))
   . rw[Lr h1 g0,h2.ef I,h2.ef U];rfl
   . rw[DO,h2.lev];unfold lvE;rw[show 2*id/2=id from by omega,g0];exact Xs _
 . exact QK h hk v lo hi g1
end
def QN {o:Own}(h:OwnI w' w.heap.size v zs)(hb:Bw w w')(H:Ac o w)(r:Role):
 ∃o',RowR o' w' r 3 1 v zs.length (Ar zs)/\Chg (· = r) o o' w w'/\Ac o' w':=by
 obtain⟨hl,h2⟩:=h;rcases h2 with ⟨h1,h0⟩|⟨g,cap,O,h1,h2,h3,Z,Y,a,X⟩
 . exact⟨o,⟨hl,.inl ⟨h1,h0⟩⟩,Chg.of_below hb _ _,H.mono hb.size⟩
 ·have U:g<w'.heap.size:=(Xt.1 h3).1;refine⟨AL o g r,⟨hl,.inr ⟨g,cap,O,h1,B4 _ _ _,h3,Z,Y,by omega,X⟩⟩,⟨hb.os,hb.tape,hb.output,hb.size,λk hk _=>hb.block k hk,λk q I=>CX H h2 I,λk hk=>?_⟩,λk q I=>?_⟩
  ·by_cases e:k=g
   . subst e;exact⟨h2,r,B4 _ _ _,rfl⟩
   . exact absurd (by simp[AL,e]) hk
  ·by_cases e:k=g
   . subst e;exact U
   . simp only[AL,Xu e]at I;have:=H k q I;have:=hb.size;omega
def Lu (o:Own)(n:Nat)(I:n<=64)(r:Role)(w:Wd)(H:Ac o w):
 Cl 126 #[Iv n] w λe w'=>∃v o',e=.returned v/\RowR o' w' r 3 1 v n ((List.range n).map nat64)/\Chg (· = r) o o' w w'/\Ac o' w':=
 (P1 n w).mono λe w' ⟨v,h1,h2,h3⟩=>by
  obtain⟨o',a,b,c⟩:=QN h2 h3 H r;have e1:Fm n=iota n:=by unfold Fm;congr 1;omega
  have e2:Ar (iota n)=(List.range n).map nat64:=by simp[Ar,iota,nat64]
  rw[e1,Gd,e2]at a;exact⟨v,o',h1,a,b,c⟩
def store0 (n room:Nat):Af:=⟨List.range n,List.range n,pool0 room,λ_ _=>none,[],0⟩
structure NewS (o:Own)(w:Wd)(n room sb:Nat)(s:BP)(j:Nat)(o1:Own)(wx:Wd):Prop where
 own:o1 sb=some .store
 ownl:o1 s.lb=some .levels
 blk:wx.heap[sb]?=some (.cells #[Pt s.lb,Pt s.pb,s.vt,.slice none 0 0,Iv 0] 169 (0,0))
 lev:wx.heap[s.lb]?=some (.cells #[s.vv,s.vl] 171 (0,0))
 vars:RowR o1 wx .vars 3 1 s.vv n ((List.range n).map nat64)
 level:RowR o1 wx .level 3 1 s.vl n ((List.range n).map nat64)
 pool:Aq o1 wx s.pb (pool0 room)
 tabs:RowR o1 wx .tabs 192 1 s.vt j (s.ts.map ptrV)
 tl:s.ts.length=j
 tab:∀v,v<j->AS o1 wx v (s.ts.getD v 0) (λ_=>none)
 chg:Chg Am o o1 w wx
 lt:Ac o1 wx
 ge:w.heap.size<=sb
def NewS.done {o:Own}(h:NewS o w n room sb s n o1 wx):A3 o1 wx sb (store0 n room):=
 ⟨{ s with vc:=.slice none 0 0 },h.own,h.ownl,h.blk,h.lev,by simpa [store0]using h.vars,by simpa [store0]using h.level,h.pool,by rw[h.tl];exact h.tabs,λv H=>h.tab v (by rw[<-h.tl];exact H),RowR.nil _ _ _ _ _,rfl,by simp[store0,h.tl]⟩
def NewS.grown {o H:Own}{X I:Wd}{t cap:Nat}(h:NewS o w n room sb s j o1 wx)(b:AS o2 X j t (λ_=>none))(d:Chg (λr=>r=.tab j\/r=.tmap j) o1 o2 wx X)(hl:Ac o2 X)
 (O:RowR H I .tabs 192 1 (.slice (some (Av g)) (j+1) cap) (j+1) (s.ts.map ptrV++[ptrV t])) (U:Chg (· = .tabs) o2 H X I) (Z:Ac H I):
 NewS o w n room sb { s with vt:=.slice (some (Av g)) (j+1) cap,ts:=s.ts++[t] } (j+1) H (I.setCell (Aw sb 2) (.slice (some (Av g)) (j+1) cap)):=by
 have g0:Chg (λr=>r=.tab j\/r=.tmap j\/r=.tabs) o1 H wx I:=(d.mono λr e=>by rcases e with e|e;exact .inl e;exact .inr (.inl e)).trans (U.mono λr e=>.inr (.inr e));have g1:=g0.ext _ _ h.own;have ne:∀{a r},H a=some r->r ≠ .store->a≠sb:=λi O e=>by subst e;rw[i]at g1;cases g1;exact O rfl
 have g3:=g0.ext _ _ h.ownl;have row:∀{r e k v m xs},RowR o1 wx r e k v m xs->r ≠ .store->¬ (r=.tab j\/r=.tmap j\/r=.tabs)->RowR H (I.setCell (Aw sb 2) (.slice (some (Av g)) (j+1) cap)) r e k v m xs:=λO h1 h2=>
  (O.chg g0 h.lt h2).setCell_other (p:=Aw sb 2) (by rw[g1];intro e;cases e;exact h1 rfl) _
 have ctab:∀v t f,AS H I v t f->AS H (I.setCell (Aw sb 2) (.slice (some (Av g)) (j+1) cap)) v t f:=λv t f l=>
  l.keep (λq r Y g2=>Az (ne Y (by rintro rfl;rcases g2 with e|e<;>cases e)) _) (λ_ _ h=>h)
 refine⟨g1,g3,A2 ((g0.same h.lt h.own (by simp)).trans h.blk) _,(Az (ne g3 (by simp)) _).trans ((g0.same h.lt h.ownl (by simp)).trans h.lev),row h.vars (by simp) (by simp),row h.level (by simp) (by simp),?_,?_,by simp[h.tl],λv u=>?_,?_,Z.mono (by simp[World.setCell]),h.ge⟩
 . have c:=h.pool.chg g0 h.lt (by simp) (by simp) (by simp) (by simp);exact c.keep (λq r Y g2=>Az (ne Y (by rintro rfl;rcases g2 with e|e|e|e<;>cases e)) _) (λ_ _ h=>h)
 . have:=O.setCell_other (p:=Aw sb 2) (by rw[g1];simp) (.slice (some (Av g)) (j+1) cap);simpa using this
 ·dsimp only;refine ctab _ _ _ ?_
  by_cases e:v=j
  ·subst e;have e2:(s.ts++[t]).getD v 0=t:=by simp[List.getD,h.tl]
   rw[e2];exact b.chg U hl (by simp) (by simp)
  ·have e2:(s.ts++[t]).getD v 0=s.ts.getD v 0:=by
    have:=h.tl;simp[List.getD,XN (show v<s.ts.length by omega)]
   rw[e2];exact(h.tab v (by omega)).chg g0 h.lt (by simp[e]) (by simp[e])
 . exact(h.chg.trans (g0.mono λr e=>by rcases e with rfl|rfl|rfl<;>simp[Am])).setCell (p:=Aw sb 2) g1 (by simp[Am]) _
def QQ:(prog.info? 192).map (λi=>(i.zero,i.size,i.bytes))=some (some (.pointer none),1,8):=by kernel_rfl
def QR (o:Own)(n room:Nat)(w:Wd)(U:Ac o w)(G:n<=64)(h1:1<=room)(h2:room<=1048576):
 Cl 83 #[Iv n,Iv room] w λx w'=>∃sb o',x=.returned (.tuple #[Pt sb,Iv 0])/\A3 o' w' sb (store0 n room)/\Chg Am o o' w w'/\Ac o' w'/\w.heap.size<=sb:=by
 have gL:(n:Int)<=64:=by omega
 have gK:(0:Int)<=n:=by omega
 have HP:=Hd (Qn o room w U h1 h2);clear U h1 h2
 go_enter func83,ntmps83
 go_wp2_with fail;refine HP.o.mono ?_;rintro x w1 ⟨pb,o1,rfl,gp,Q,A,gJ⟩;have gC:=Hd (Lu o1 n G .vars w1 A);have gA:=Hd A;have J:=Hd gp;have m:=Hd Q;clear gp Q A;go_wp2_with fail;refine gC.o.mono ?_;rintro x w2 ⟨vv,o2,rfl,c,S,B⟩;have gB:=Hd (Lu o2 n G .level w2 B);have q:=Hd c;have gc:=Hd S;have p:=Hd B;clear c S B;go_wp2_with fail;refine gB.o.mono ?_;rintro x H ⟨vl,X,rfl,g4,gt,T⟩;obtain⟨av,cv,rfl,_⟩:=q.o.slice;obtain⟨f,cl,rfl,_⟩:=g4.slice;have L:=Hd g4;have g6:=Hd gt;have g3:=Hd T;clear g4 gt T;go_upto_region 7 with fail;obtain⟨Y,g1⟩:=Ex (H.alloc (.cells #[.slice av n cv,.slice f n cl] 171));obtain⟨ws,g0⟩:=Ex (Y.alloc (.cells #[Pt H.heap.size,Pt pb,.slice none 0 0,.slice none 0 0,Iv 0] 169));have C:Y.heap.size=H.heap.size+1:=by rw[g1];simp
 have N:NewS o w n room (H.heap.size+1) ⟨H.heap.size,pb,.slice av n cv,.slice f n cl,.slice none 0 0,.slice none 0 0,[]⟩ 0 (AL (AL X H.heap.size .levels) (H.heap.size+1) .store) ws:=by
  have c1:=(Chg.refl Am X H).allocR (r:=.levels) g3.o (.cells #[.slice av n cv,.slice f n cl] 171) (by simp[Am]);have b:=g3.o.allocR (.cells #[.slice av n cv,.slice f n cl] 171) .levels;rw[<-g1]at c1 b;have c2:=c1.allocR (r:=.store) b (.cells #[Pt H.heap.size,Pt pb,.slice none 0 0,.slice none 0 0,Iv 0] 169) (by simp[Am]);have F:=b.allocR (.cells #[Pt H.heap.size,Pt pb,.slice none 0 0,.slice none 0 0,Iv 0] 169) .store;rw[<-g0,C]at c2 F;have hb:Bw H ws:=by rw[g0,g1];exact(Ag H _).alloc (by simp) _
  have c:=((q.o.chg g6.o p.o (by simp)).below g3.o hb).keep (o':=AL (AL X H.heap.size .levels) (H.heap.size+1) .store) (λ_ _=>rfl) (λg a=>c2.ext g _ a);have g4:=(L.o.below g3.o hb).keep (o':=AL (AL X H.heap.size .levels) (H.heap.size+1) .store) (λ_ _=>rfl) (λg a=>c2.ext g _ a);have gE:=(m.o.mono (R':=Am) (λr Z=>by rcases Z with rfl|rfl|rfl<;>simp[Am,Bm])).trans ((gc.o.mono (R':=Am) (λr Z=>by subst Z;simp[Am])).trans ((g6.o.mono (R':=Am) (λr Z=>by subst Z;simp[Am])).trans c2));have gD:=(J.o.chg (gc.o) gA.o (by simp) (by simp) (by simp) (by simp)).chg g6.o p.o (by simp) (by simp) (by simp) (by simp);have hp:=(gD.below hb g3.o).keep (o':=AL (AL X H.heap.size .levels) (H.heap.size+1) .store) (λ_ _ _ _=>rfl) (λg r a=>c2.ext g r a);refine⟨B4 _ _ _,CX b (by omega) (B4 _ _ _),?_,?_,c,g4,hp,RowR.nil _ _ _ _ _,rfl,λv hv=>absurd hv (by omega),gE,F,?_⟩
  . rw[g0,<-C];exact Xv Y _
  . rw[g0];exact(X1 Y _ (show H.heap.size<Y.heap.size by omega)).trans (by rw[g1];exact Xv H _)
  ·show w.heap.size<=H.heap.size+1
   exact Nat.le_succ_of_le (Xz m.o.size (Xz gc.o.size g6.o.size))
 rw[<-g1,<-g0];have M:=Hd N;clear N g0 g1 C q L m gc g6 gA p g3 J gC gB HP;go_wp2
 go_loopw [31] (λi wr=>∃(j:Nat) (s:BP) (o1:Own),j<=n/\i=Iv j/\NewS o w n room (H.heap.size+1) s j o1 wr) (λi _=>n-(intOf i).toNat)
 case atStart=>exact⟨0,_,_,by omega,rfl,M.o⟩
 case round=>
  obtain⟨j,s,o1,hj,rfl,O⟩:=hrel;clear M
  by_cases U:j<n
  ·obtain⟨c0,c1,c2,c3,c4,f0⟩:=cells5 O.blk;obtain⟨av,cv,g9,_⟩:=O.tabs.slice;rw[g9]at c2;have gH:(j:Int)<n:=by omega
   have HJ:(j:Int)+1<=64:=by omega
   have I:=Hd O;have gF:Hq (RowR o1 wr .tabs 192 1 (.slice av j cv) j (s.ts.map ptrV)):=by show RowR _ _ _ _ _ _ _ _;rw[<-g9];exact O.tabs
   have gG:=Hd (Qh o1 j wr.drew O.lt);have gI:j<=64:=by omega
   have y:=Hd g9;clear g9 O;go_upto_region 9 with fail;refine AJ (λW:Wd=>W.cell? ⟨H.heap.size+1,2,none⟩=some (.slice av j cv)/\W.frozen? ⟨H.heap.size+1,2,none⟩=false) true 10
    [(0,false),(1,false),(2,false),(3,false),(4,false),(5,true),(6,true),(7,true),(8,false),(9,false),(10,true)] (by kernel_rfl) (by kernel_rfl) ⟨c2,f0 2⟩ ?_
   simp only[planned,AI]
   iterate 5
    refine A0 rfl ?_;apply Exists.intro;refine⟨λw' k=>?_,?_⟩
    . obtain⟨h1,h2⟩:=k;go_simp;rfl
    simp only[Ab]
   refine B7 (R:=λv w'=>∃t o2,v=Pt t/\AS o2 w' j t (λ_=>none)/\Chg (λr=>r=.tab j\/r=.tmap j) o1 o2 wr w'/\Ac o2 w') rfl (by go_simp) (gG.o.mono (λe w' he=>?_)) ?_
   . obtain⟨t,o2,rfl,a1,a2,a3,a4⟩:=he;obtain⟨_,_,q2,_,_,q0⟩:=cells5 ((a2.same (by exact I.o.lt) I.o.own (by simp)).trans I.o.blk);exact⟨_,rfl,⟨by rw[<-y.o];exact q2,q0 2⟩,t,o2,rfl,a1,⟨a2.os,a2.tape,a2.output,a2.size,a2.block,a2.ext,a2.new⟩,a3⟩
   rintro v h-⟨t,o2,rfl,l,g2,g5⟩;simp only[Ab];have d:=(g2.same I.o.lt I.o.own (by simp)).trans I.o.blk;have gf:H.heap.size+1<h.heap.size:=(Xt.1 d).1;have gO:=Hd g2;have gM:=Hd l;have gN:=Hd g5;have gk:=gF.o.chg g2 I.o.lt (by simp);obtain⟨wb,g8⟩:=Ex (h.alloc (.cells #[Pt t] 192));obtain⟨_,_,D,_,_,E⟩:=cells5 (show wb.heap[H.heap.size+1]?=_ from by rw[g8];exact(X1 _ _ gf).trans d);refine Ei (v:=.slice (some (Av h.heap.size)) 1 1) (w':=wb) rfl (by rw[g8];go_simp) ⟨by rw[<-y.o];exact D,E 2⟩ ?_;simp only[Ab];obtain⟨g,cap,wz,X,g7,go,z,V⟩:=I7 167 192 167 1 8 (.pointer none) underlying167 QQ rfl (by decide) #[Pt t] rfl (λu hu=>by simp at hu;subst hu;rfl) gk g5 (by omega) (by decide);rw[<-g8]at g7;obtain⟨_,_,r2,_,_,r0⟩:=cells5 ((z.same g5 (g2.ext _ _ I.o.own) (by simp)).trans d);refine Ei (v:=.slice (some (Av g)) (j+1) cap) (w':=wz) rfl (KN rfl rfl rfl g7) ⟨by rw[<-y.o];exact r2,r0 2⟩ ?_;simp only[Ab];have HG:=Hd (I.o.grown l g2 g5 go z V);clear d gf g2 l g5 gk g8 D E g7 go z V
   iterate 2
    refine A0 rfl ?_;apply Exists.intro;refine⟨λw' k=>?_,?_⟩
    . obtain⟨h1,h2⟩:=k;go_simp;rfl
    simp only[Ab]
   refine DE rfl (λK hK=>?_);unfold Oper.wp;go_simp;refine hK _ _ (C2 ?_);go_wp2;go_roundw
   case rel=>exact⟨j+1,_,_,by omega,by simp,HG.o⟩
   case measure=>simp[intOf];omega
  ·obtain rfl:j=n:=by omega
   have I:=Hd O;clear O;go_wp2
   go_ret2
   exact⟨_,_,rfl,I.o.done,I.o.chg,I.o.lt,I.o.ge⟩
structure Ev where
 after:Int
 kind:Int
 level:Int
variable {ev:Ev}{ws:List Ev}
def evL (e:Ev):List Value:=[Iv e.after,Iv e.kind,Iv e.level]
def evA (e:Ev):Value:=.agg #[Iv e.after,Iv e.kind,Iv e.level]
structure Be (o:Own)(w:Wd)(v:Value)(ws:List Ev):Prop where
 ex:(v=.slice none 0 0/\ws=[])\/∃g off cap cur,v=.slice (some (Aw g off)) ws.length cap/\o g=some .waits/\w.heap[g]?=some (.cells cur 76 (0,0))/\ws.length<=cap/\cap<=maxLen /\
  off+cap*3<=cur.size/\(cur.toList.drop off).take (ws.length*3)=ws.flatMap evL
theorem Be.keep {o:Own}(h:Be o w v ws)(hk:∀g,o g=some .waits->w'.heap[g]?=w.heap[g]?)(H:∀g,o g=some .waits->o' g=some .waits):Be o' w' v ws:=by
 refine⟨h.ex.imp id ?_⟩;rintro⟨g,off,cap,cur,h1,h2,h3,rest⟩;exact⟨g,off,cap,cur,h1,H g h2,(hk g h2).trans h3,rest⟩
def Be.chg {o:Own}(h:Be o w v ws)(O:Chg R o o' w w')(H:Ac o w)(U:¬ R .waits):Be o' w' v ws:=
 h.keep (λg I=>O.same H I U) (λg I=>O.ext g _ I)
def Be.nil (o:Own)(w:Wd):Be o w (.slice none 0 0) []:=⟨.inl ⟨rfl,rfl⟩⟩
def Be.slice {o:Own}{w:Wd}{v:Value}{ws:List Ev}(h:Be o w v ws):∃a cap,v=.slice a ws.length cap/\(a=none->cap=0):=by
 rcases h.ex with ⟨h1,h0⟩|⟨g,off,cap,H,h1,_⟩
 . exact⟨none,0,by rw[h1,h0];rfl,λ_=>rfl⟩
 . exact⟨_,cap,h1,by simp⟩
def EJ (ws:List Ev):(ws.flatMap evL).length=ws.length*3:=Ch evL 3 (λ_=>rfl) ws
abbrev XI:=@List.getElem?_eq_some_iff
def Be.first {o:Own}(h:Be o w v (ev::ws)):∃g off cap,v=.slice (some (Aw g off)) (ws.length+1) cap/\o g=some .waits/\ws.length+1<=cap/\cap<=maxLen /\
 w.cell? (Aw g off)=some (Iv ev.after)/\w.cell? (Aw g (off+1))=some (Iv ev.kind)/\w.cell? (Aw g (off+2))=some (Iv ev.level)/\Be o w (.slice (if cap=1 then some (Aw g off)else some (Aw g (off+3))) ws.length (cap-1)) ws:=by
 rcases h.ex with ⟨h1,h0⟩|⟨g,off,cap,H,h1,h2,h3,X,Y,a,U⟩
 . cases h0
 ·simp only[XL]at h1 X U;have O:∀j u,(evL ev++ws.flatMap evL)[j]?=some u->w.cell? (Aw g (off+j))=some u:=by
   intro j u I;have hl:=(XI.1 I).1;have g0:j<(ws.length+1)*3:=by
    have e1:(evL ev++ws.flatMap evL).length=3+ws.length*3:=by rw[X4,EJ];rfl
    omega
   rw[Xw w g (off+j) H _ (0,0) h3];have e2:(evL ev++ws.flatMap evL)[j]?=((H.toList.drop off).take ((ws.length+1)*3))[j]?:=by rw[U];rfl
   rw[e2,Zt,Xx g0,Zu]at I;simpa using I
  refine⟨g,off,cap,h1,h2,X,Y,O 0 _ rfl,O 1 _ rfl,O 2 _ rfl,⟨.inr ?_⟩⟩
  by_cases e1:cap=1
  . have e2:ws=[]:=YC (by omega);subst e2;exact⟨g,off,cap-1,H,by rw[Xx e1],h2,h3,by simp,by omega,by omega,by simp⟩
  ·refine⟨g,off+3,cap-1,H,by rw[Xu e1],h2,h3,by omega,by omega,by omega,?_⟩;have Z:(H.toList.drop (off+3)).take (ws.length*3)=((H.toList.drop off).take ((ws.length+1)*3)).drop 3:=by
    rw[List.drop_take,List.drop_drop];congr 1;omega
   rw[Z,U];rfl
structure ManD where
 d:Af
 hs:List (Int×Nat)
 next:Int
 waits:List Ev
 calls:Int
variable {m m':ManD}
structure ManW where
 sb:Nat
 me:Nat
 hb:Nat
 vw:Value
def encH (hs:List (Int×Nat)):List (Int×Value):=hs.map λp=>(p.1,Iv (p.2:Nat))
structure A9 (F:Phi)(o:Own)(w:Wd)(mb:Nat)(m:ManD)(s:ManW):Prop where
 own:o mb=some .man
 blk:w.heap[mb]?=some (.cells #[Pt s.sb,Pt s.me,.map (some s.hb),Iv m.next,s.vw,Iv m.calls] 117 (0,0))
 store:A3 o w s.sb m.d
 memo:Bc o w s.me F
 ownh:o s.hb=some .handles
 map:Au w s.hb (Value.int .i64) (encH m.hs)
 waits:Be o w s.vw m.waits
def AF (F:Phi)(o:Own)(w:Wd)(mb:Nat)(m:ManD):Prop:=∃s,A9 F o w mb m s
def cells6 {a b c d e f:Value}(h:w.heap[g]?=some (.cells #[a,b,c,d,e,f] T (0,0))):w.cell? (Av g)=some a/\w.cell? (Aw g 1)=some b/\w.cell? (Aw g 2)=some c/\w.cell? (Aw g 3)=some d/\w.cell? (Aw g 4)=some e/\w.cell? (Aw g 5)=some f /\
 (∀k,w.frozen? (Aw g k)=false):=
 ⟨by rw[Xw w g 0 _ _ _ h];rfl,by rw[Xw w g 1 _ _ _ h];rfl,by rw[Xw w g 2 _ _ _ h];rfl,by rw[Xw w g 3 _ _ _ h];rfl,by rw[Xw w g 4 _ _ _ h];rfl,by rw[Xw w g 5 _ _ _ h];rfl,λk=>by simp[World.frozen?,h]⟩
section
variable {F:Phi}{o:Own}{s:ManW}
def Au.keepB {enc:Int->Value}{l:List (Int×Value)}(h:Au w b enc l)(hk:w'.heap[b]?=w.heap[b]?):Au w' b enc l:=by
 obtain⟨es,c,hb,rest⟩:=h.ex;exact⟨⟨es,c,hk.trans hb,rest⟩,h.nodup⟩
def A3.keepR (h:A3 o w sb d)(hk:∀g r,o g=some r->Am r->w'.heap[g]?=w.heap[g]?)(O:∀g r,o g=some r->o' g=some r):A3 o' w' sb d:=by
 obtain⟨s,h⟩:=h;have row:∀{r e k v n xs},Am r->RowR o w r e k v n xs->RowR o' w' r e k v n xs:=λI h=>h.keep (λg H=>hk g _ H I) (λg H=>O g _ H)
 refine⟨s,O _ _ h.own,O _ _ h.ownl,(hk _ _ h.own (by simp[Am])).trans h.blk,(hk _ _ h.ownl (by simp[Am])).trans h.lev,row (by simp[Am]) h.vars,row (by simp[Am]) h.level,
  h.pool.keep (λg r H I=>hk g r H (by rcases I with rfl|rfl|rfl|rfl<;>simp[Am,Bm])) O,row (by simp[Am]) h.tabs,
  λv U=>(h.tab v U).keep (λg r H I=>hk g r H (by rcases I with rfl|rfl<;>simp[Am])) O,row (by simp[Am]) h.counts,h.len,h.tlen⟩
theorem Bc.mono {G:Phi}{me:Nat}(h:Bc o w me F)(I:∀op a b c r,F op a b c r->G op a b c r):Bc o w me G:=by
 obtain⟨H,a,f,h1,h2⟩:=h.ex;refine⟨h.own,H,a,f,h1,h2.imp id ?_⟩;rintro⟨ge,cap,l,e1,e2,e3,e4⟩;exact⟨ge,cap,l,e1,e2,e3,λi hi=>I _ _ _ _ _ (e4 i hi)⟩
def A9.keep (h:A9 F o w mb m s)(hk:∀g r,o g=some r->w'.heap[g]?=w.heap[g]?)(I:∀g r,o g=some r->o' g=some r):A9 F o' w' mb m s:=
 ⟨I _ _ h.own,(hk _ _ h.own).trans h.blk,h.store.keepR (λg r H _=>hk g r H) I,h.memo.keep (λg r H _=>hk g r H) I,I _ _ h.ownh,h.map.keepB (hk _ _ h.ownh),h.waits.keep (λg H=>hk g _ H) (λg H=>I g _ H)⟩
def A9.below (h:A9 F o w mb m s)(H:Ac o w)(hb:Bw w w'):A9 F o w' mb m s:=h.keep (λg r I=>hb.block g (H g r I)) (λ_ _ h=>h)
def A9.setStore (h:A9 F o w mb m s)(H:Ac o w)(hs:A3 o' w' s.sb d')(I:Chg Am o o' w w'):A9 F o' w' mb { m with d:=d' } s:=
 ⟨I.ext _ _ h.own,(I.same H h.own (by simp[Am,Bm])).trans h.blk,hs,h.memo.chg I H (by simp[Am,Bm]) (by simp[Am,Bm]),I.ext _ _ h.ownh,h.map.keepB (I.same H h.ownh (by simp[Am,Bm])),h.waits.chg I H (by simp[Am,Bm])⟩
def A9.setMemo {G:Phi}(h:A9 F o w mb m s)(H:Ac o w)(U:Bc o' w' s.me G)(I:Chg (λr=>r=.memo\/r=.entries) o o' w w'):A9 G o' w' mb m s:=
 ⟨I.ext _ _ h.own,(I.same H h.own (by simp)).trans h.blk,h.store.keepR (λg r X O=>I.same H X (by rintro(rfl|rfl)<;>simp[Am,Bm]at O)) I.ext,U,I.ext _ _ h.ownh,h.map.keepB (I.same H h.ownh (by simp)),h.waits.chg I H (by simp)⟩
def A9.mono {G:Phi}(h:A9 F o w mb m s)(H:∀op a b c r,F op a b c r->G op a b c r):A9 G o w mb m s:=⟨h.own,h.blk,h.store,h.memo.mono H,h.ownh,h.map,h.waits⟩
def A9.field (h:A9 F o w mb m s){s':ManW}(U:m'.d=m.d)(hh:m'.hs=m.hs)(h1:s'.sb=s.sb)(h2:s'.me=s.me)(h3:s'.hb=s.hb)(O:Be o w s'.vw m'.waits)
 (hb:(#[Pt s.sb,Pt s.me,.map (some s.hb),Iv m.next,s.vw,Iv m.calls]:Array Value).setIfInBounds k u=#[Pt s.sb,Pt s.me,.map (some s.hb),Iv m'.next,s'.vw,Iv m'.calls]):
 A9 F o (w.setCell (Aw mb k) u) mb m' s':=by
 have ne:∀{g r},o g=some r->r ≠ .man->g≠mb:=λH I e=>by subst e;have:=h.own;rw[H]at this;cases this;exact I rfl
 refine⟨h.own,?_,?_,?_,by rw[h3];exact h.ownh,?_,O.keep (λg H=>Az (ne H (by simp)) _) (λ_ h=>h)⟩
 . rw[h1,h2,h3,<-hb];exact A2 h.blk _
 . rw[h1,U];exact h.store.keepR (λg r H I=>Az (ne H (by rintro rfl;simp[Am,Bm]at I)) _) (λ_ _ h=>h)
 . rw[h2];exact h.memo.keep (λg r H I=>Az (ne H (by rintro rfl;rcases I with e|e<;>cases e)) _) (λ_ _ h=>h)
 . rw[h3,hh];exact h.map.keepB (Az (ne h.ownh (by simp)) _)
end
abbrev Law:=Af->(Nat->BF)->Phi
def minL (d:Af)(a b c:Nat):Nat:=min (lvE d.vars.length (levN d) (Aa d) a) (min (lvE d.vars.length (levN d) (Aa d) b) (lvE d.vars.length (levN d) (Aa d) c))
structure IteP (d:Af)(V:Nat->BF)(a b c r:Nat):Prop where
 okA:okE (Aa d) a
 okB:okE (Aa d) b
 okC:okE (Aa d) c
 okR:okE (Aa d) r
 val:∀ρ,ef V r ρ=if ef V a ρ then ef V b ρ else ef V c ρ
 lev:minL d a b c<=lvE d.vars.length (levN d) (Aa d) r
structure AC (K:Law):Prop where
 ite:∀d V a b c r,K d V 1 a b c r↔IteP d V a b c r
 ext:∀d V d' V' op a b c r,Ai d V->Ai d' V'->Ext d V d' V'->K d V op a b c r->K d' V' op a b c r
 same:∀d d' V op a b c r,d'.vars=d.vars->d'.level=d.level->Aa d'=Aa d->K d V op a b c r->K d' V op a b c r
def AT (hs:List (Int×Nat))(i:Nat):Nat:=(hs.filter λp=>decide (1<p.1)&&p.2/2 == i).length
structure Ct (m:ManD):Prop where
 nodup:(m.hs.map Prod.fst).Nodup
 zero:(0,1)∈m.hs
 one:(1,0)∈m.hs
 lt:∀p∈m.hs,0<=p.1/\p.1<m.next
 next:2<=m.next
 ok:∀p∈m.hs,okE (Aa m.d) p.2
 len:(m.hs.length:Int)<=m.next
 refs:∀i b,Aa m.d i=some b->Al m.d i=AT m.hs i
structure EK (m:ManD)(V:Nat->BF):Prop where
 store:Ai m.d V
 handles:Ct m
structure Step (K:Law)(o:Own)(w:Wd)(mb:Nat)(m:ManD)(V:Nat->BF)(o':Own)(w':Wd)(m':ManD)(V':Nat->BF):Prop where
 is:AF (K m'.d V') o' w' mb m'
 lt:Ac o' w'
 chg:Chg (λ_=>True) o o' w w'
 ok:Ai m'.d V'
 ext:Ext m.d V m'.d V'
 hs:m'.hs=m.hs
 next:m'.next=m.next
def Step.trans {K:Law}{o o' o'':Own}{w w' w'':Wd}{mb:Nat}{m m' I:ManD}{V V' O:Nat->BF}(h:Step K o w mb m V o' w' m' V')(H:Step K o' w' mb m' V' o'' w'' I O):Step K o w mb m V o'' w'' I O:=
 ⟨H.is,H.lt,h.chg.trans H.chg,H.ok,h.ext.trans H.ext,H.hs.trans h.hs,H.next.trans h.next⟩
structure AR (o:Own)(w:Wd)(xb mb:Nat):Prop where
 cell:w.cell? (Av xb)=some (Pt mb)
 own:o xb=none
def AR.chg {o:Own}(h:AR o w xb mb)(H:Chg R o o' w w'):AR o' w' xb mb:=⟨H.cell h.cell h.own,H.alien' (Z5 w _ h.cell) h.own⟩
def sw1 (f g:Nat):Nat:=if g=f then 0 else if g=enot f then 1 else g
def sw2 (f h:Nat):Nat:=if h=f then 1 else if h=enot f then 0 else h
def QS (h:g<eMax):sw1 f g<eMax:=by unfold sw1;unfold eMax at *;split<;>(try split)<;>omega
def QT (h:g<eMax):sw2 f g<eMax:=by unfold sw2;unfold eMax at *;split<;>(try split)<;>omega
def eqE2 (w:Wd)(a b c d:Nat):(Op.equalIn 10000 239 (.agg #[Iv a,Iv b]) (.agg #[Iv c,Iv d])).run prog w=.ok (decide (a=c/\b=d)) w:=by
 have h:=eqE w (a,b) (c,d);unfold encE Op.equal at h;simp only[YN]at h;exact h
structure IteR where
 a:Nat
 b:Nat
 c:Nat
 n:Bool
 r:Nat
 dn:Bool
def iteV (x:IteR):Value:=.tuple #[Iv x.a,Iv x.b,Iv x.c,.bool x.n,Iv x.r,.bool x.dn]
def iteM (f g h:Nat):IteR:=if eneg f then⟨enot f,eflip h (eneg h),eflip g (eneg h),eneg h,0,false⟩else⟨f,eflip g (eneg g),eflip h (eneg g),eneg g,0,false⟩
def iteK (f g h:Nat):IteR:=
 if f=0\/g=h then⟨0,0,0,false,g,true⟩else if f=1 then⟨0,0,0,false,h,true⟩else if g=0/\h=1 then⟨0,0,0,false,f,true⟩else if g=1/\h=0 then⟨0,0,0,false,enot f,true⟩else iteM f g h
def iteR (f g h:Nat):IteR:=iteK f (sw1 f g) (sw2 f h)
def En {fn:Func}{t u v x y z:Tmp}(h:fn.results=#[.tmp t,.tmp u,.tmp v,.tmp x,.tmp y,.tmp z])(tmps:Array Value)(P:Program)(w:Wd):
 (results fn tmps).run P w=.ok (.tuple #[tmps.getD t undef,tmps.getD u undef,tmps.getD v undef,tmps.getD x undef,tmps.getD y undef,tmps.getD z undef]) w:=by
 simp[results,h]
def QU (f g h:Nat)(w:Wd)(e:f<eMax)(i:g<eMax)(hh:h<eMax):
 Cl 143 #[Iv f,Iv g,Iv h] w (Sm (iteV (iteR f g h)) w):=by
 have Z:=Hd (λW:Wd=>Gh f W e);have g3:=Hd (QS (f:=f) i);have n:=Hd hh;have g2:=Hd (QT (f:=f) hh);have g9:=Hd e;clear e i hh
 go_enter func143,ntmps143
 go_upto_block 0 with fail
 go_cut [1] from 13 (λm wx=>m=Iv (sw1 f g:Nat)/\wx=w)
 case first=>
  by_cases h1:g=f
  ·have O:Hq ((sw1 f g:Nat)=0):=by show _=_;simp[sw1,h1]
   subst h1;go_wp2_with fail;go_meet;exact⟨by rw[O.o];rfl,rfl⟩
  ·have k:(g == f)=false:=by simp[h1]
   by_cases h2:g=enot f
   ·have O:Hq ((sw1 f g:Nat)=1):=by show _=_;unfold sw1;rw[Xu h1,Xx h2]
    subst h2;clear h1;go_wp2_with (go_at_call 112;refine(Z.o _).mono ?_;rintro x w' ⟨rfl,rfl⟩);go_meet;exact⟨by rw[O.o];rfl,rfl⟩
   ·have O:Hq ((sw1 f g:Nat)=g):=by show _=_;unfold sw1;rw[Xu h1,Xu h2]
    have j:(g == enot f)=false:=by simp[h2]
    clear h1 h2;go_wp2_with (go_at_call 112;refine(Z.o _).mono ?_;rintro x w' ⟨rfl,rfl⟩);go_meet;exact⟨by rw[O.o],rfl⟩
 case rest=>
  obtain⟨rfl,rfl⟩:=hcut;have g0:Hq (iteR f g h=iteK f (sw1 f g) (sw2 f h)):=by show _=_;rfl
  obtain⟨g',g4⟩:=Ex (sw1 f g);rw[<-g4]at g0;rw[<-g4]at g3⊢;clear g4
  go_upto_block 1 with fail
  go_cut [2] from 13 (λl wx=>l=Iv (sw2 f h:Nat)/\wx=wc)
  case first=>
   by_cases h1:h=f
   ·have O:Hq ((sw2 f h:Nat)=1):=by show _=_;simp[sw2,h1]
    subst h1;go_wp2_with fail;go_meet;exact⟨by rw[O.o];rfl,rfl⟩
   ·have k:(h == f)=false:=by simp[h1]
    by_cases h2:h=enot f
    ·have O:Hq ((sw2 f h:Nat)=0):=by show _=_;unfold sw2;rw[Xu h1,Xx h2]
     subst h2;clear h1;go_wp2_with (go_at_call 112;refine(Z.o _).mono ?_;rintro x w' ⟨rfl,rfl⟩);go_meet;exact⟨by rw[O.o];rfl,rfl⟩
    ·have O:Hq ((sw2 f h:Nat)=h):=by show _=_;unfold sw2;rw[Xu h1,Xu h2]
     have j:(h == enot f)=false:=by simp[h2]
     clear h1 h2;go_wp2_with (go_at_call 112;refine(Z.o _).mono ?_;rintro x w' ⟨rfl,rfl⟩);go_meet;exact⟨by rw[O.o],rfl⟩
  case rest=>
   obtain⟨rfl,rfl⟩:=hcut;obtain⟨H,g5⟩:=Ex (sw2 f h);rw[<-g5]at g0 g2⊢;clear g5
   rename Wd=>w
   have X:=λ(a b c d:Nat)=>eqE2 w a b c d
   by_cases f0:f=0
   ·have I:Hq (iteR f g h=⟨0,0,0,false,g',true⟩):=by show _=_;rw[g0.o,iteK,Xx (.inl f0)]
    subst f0;go_wp2_with fail;refine X2 (En rfl _ _ _) rfl ?_;exact⟨by rw[I.o];rfl,rfl⟩
   ·have p:((f:Int) == 0)=false:=by simp[f0]
    by_cases e1:g'=H
    ·have I:Hq (iteR f g h=⟨0,0,0,false,g',true⟩):=by show _=_;rw[g0.o,iteK,Xx (.inr e1)]
     subst e1;go_wp2_with fail;refine X2 (En rfl _ _ _) rfl ?_;exact⟨by rw[I.o];rfl,rfl⟩
    ·have k:(g' == H)=false:=by simp[e1]
     by_cases f1:f=1
     ·have I:Hq (iteR f g h=⟨0,0,0,false,H,true⟩):=by show _=_;rw[g0.o,iteK,Xu (by simp[f0,e1]),Xx f1]
      have I:=I;subst f1;clear f0 e1;go_wp2_with fail;refine X2 (En rfl _ _ _) rfl ?_;exact⟨by rw[I.o];rfl,rfl⟩
     ·have j:((f:Int) == 1)=false:=by simp;omega
      by_cases U:g'=0/\H=1
      ·have I:Hq (iteR f g h=⟨0,0,0,false,f,true⟩):=by show _=_;rw[g0.o,iteK,Xu (by simp[f0,e1]),Xu f1,Xx U]
       have g8:(Op.equalIn 10000 239 (.agg #[Iv g',Iv H]) (.agg #[Iv 0,Iv 1])).run prog w=.ok true w:=(X g' H 0 1).trans (by simp[U]);clear f0 e1 f1 U X;go_wp2_with fail;refine X2 (En rfl _ _ _) rfl ?_;exact⟨by rw[I.o];rfl,rfl⟩
      ·have g8:(Op.equalIn 10000 239 (.agg #[Iv g',Iv H]) (.agg #[Iv 0,Iv 1])).run prog w=.ok false w:=(X g' H 0 1).trans (by simp[U])
       by_cases Y:g'=1/\H=0
       ·have I:Hq (iteR f g h=⟨0,0,0,false,enot f,true⟩):=by show _=_;rw[g0.o,iteK,Xu (by simp[f0,e1]),Xu f1,Xu U,Xx Y]
        have g7:(Op.equalIn 10000 239 (.agg #[Iv g',Iv H]) (.agg #[Iv 1,Iv 0])).run prog w=.ok true w:=(X g' H 1 0).trans (by simp[Y]);clear f0 e1 f1 U X Y;go_wp2_with (go_at_call 112;refine(Z.o _).mono ?_;rintro x w' ⟨rfl,rfl⟩);refine X2 (En rfl _ _ _) rfl ?_;exact⟨by rw[I.o];rfl,rfl⟩
       ·have g7:(Op.equalIn 10000 239 (.agg #[Iv g',Iv H]) (.agg #[Iv 1,Iv 0])).run prog w=.ok false w:=(X g' H 1 0).trans (by simp[Y]);have g6:Hq (iteR f g h=iteM f g' H):=by show _=_;rw[g0.o,iteK,Xu (by simp[f0,e1]),Xu f1,Xu U,Xu Y]
        clear f0 e1 f1 U X Y;have g1:=Hd (λW:Wd=>CZ f W g9.o);cases hb:eneg f with
        | true=>
          have I:Hq (iteR f g h=⟨enot f,eflip H (eneg H),eflip g' (eneg H),eneg H,0,false⟩):=by show _=_;rw[g6.o,iteM,Xx hb]
          rw[hb]at g1;clear hb;go_wp2_with fail;refine(g1.o _).mono ?_;rintro x w' ⟨rfl,rfl⟩;go_wp2_with fail;refine(Z.o _).mono ?_;rintro x w' ⟨rfl,rfl⟩;go_wp2_with fail;refine(CZ H _ g2.o).mono ?_;rintro x w' ⟨rfl,rfl⟩;go_wp2_with fail;refine(Cz H _ _ g2.o).mono ?_;rintro x w' ⟨rfl,rfl⟩;go_wp2_with fail;refine(Cz g' _ _ g3.o).mono ?_;rintro x w' ⟨rfl,rfl⟩;go_wp2_with fail;refine X2 (En rfl _ _ _) rfl ?_;exact⟨by rw[I.o];rfl,rfl⟩
        | false=>
          have I:Hq (iteR f g h=⟨f,eflip g' (eneg g'),eflip H (eneg g'),eneg g',0,false⟩):=by show _=_;rw[g6.o,iteM,Xu (by simp[hb])]
          rw[hb]at g1;clear hb;go_wp2_with fail;refine(g1.o _).mono ?_;rintro x w' ⟨rfl,rfl⟩;go_wp2_with fail;refine(CZ g' _ g3.o).mono ?_;rintro x w' ⟨rfl,rfl⟩;go_wp2_with fail;refine(Cz g' _ _ g3.o).mono ?_;rintro x w' ⟨rfl,rfl⟩;go_wp2_with fail;refine(Cz H _ _ g2.o).mono ?_;rintro x w' ⟨rfl,rfl⟩;go_wp2_with fail;refine X2 (En rfl _ _ _) rfl ?_;exact⟨by rw[I.o];rfl,rfl⟩
def Ca (e f g h:Nat):Prop:=e/2=0\/e/2=f/2\/e/2=g/2\/e/2=h/2
def iteB (a b c:Bool):Bool:=if a then b else c
section
variable (hV:∀ρ,V 0 ρ=true)
def Eo (hV:∀ρ,V 0 ρ=true)(ρ:Nat->Bool):ef V 0 ρ=true:=by simp[ef,hV]
def Ep (hV:∀ρ,V 0 ρ=true)(ρ:Nat->Bool):ef V 1 ρ=false:=by simp[ef,hV]
def Lv (hV:∀ρ,V 0 ρ=true)(f g:Nat)(h:Bool)(ρ:Nat->Bool):iteB (ef V f ρ) (ef V (sw1 f g) ρ) h=iteB (ef V f ρ) (ef V g ρ) h:=by
 unfold sw1
 by_cases e1:g=f
 . subst e1;rw[Xx rfl,Eo hV];unfold iteB;cases ef V g ρ<;>rfl
 ·by_cases e2:g=enot f
  . subst e2;rw[Xu e1,Xx rfl,DB,Ep hV];unfold iteB;cases ef V f ρ<;>rfl
  . rw[Xu e1,Xu e2]
end
def Lw (hV:∀ρ,V 0 ρ=true)(f h:Nat)(g:Bool)(ρ:Nat->Bool):iteB (ef V f ρ) g (ef V (sw2 f h) ρ)=iteB (ef V f ρ) g (ef V h ρ):=by
 unfold sw2
 by_cases e1:h=f
 . subst e1;rw[Xx rfl,Ep hV];unfold iteB;cases ef V h ρ<;>rfl
 ·by_cases e2:h=enot f
  . subst e2;rw[Xu e1,Xx rfl,DB,Eo hV];unfold iteB;cases ef V f ρ<;>rfl
  . rw[Xu e1,Xu e2]
def Lx (f g:Nat):sw1 f g/2=0\/sw1 f g/2=g/2:=by unfold sw1;split<;>(try split)<;>simp
def Ly (f g:Nat):sw2 f g/2=0\/sw2 f g/2=g/2:=by unfold sw2;split<;>(try split)<;>simp
def Lz (H:(iteR f g h).dn=true):Ca (iteR f g h).r f g h/\∀{V:Nat->BF},(∀ρ,V 0 ρ=true)->∀ρ,ef V (iteR f g h).r ρ=iteB (ef V f ρ) (ef V g ρ) (ef V h ρ):=by
 have X:=Lx f g;have U:=Ly f h;have key:∀{V:Nat->BF},(∀ρ,V 0 ρ=true)->∀ρ,iteB (ef V f ρ) (ef V g ρ) (ef V h ρ)=iteB (ef V f ρ) (ef V (sw1 f g) ρ) (ef V (sw2 f h) ρ):=λhV ρ=>by rw[Lv hV,Lw hV]
 unfold iteR at H⊢
 generalize sw1 f g=g' at *
 generalize sw2 f h=h' at *
 unfold iteK at H⊢
 by_cases e1:f=0\/g'=h'
 ·simp only[Xx e1];refine⟨by unfold Ca;omega,λhV ρ=>?_⟩;rw[key hV];rcases e1 with e|e
  . subst e;rw[Eo hV];rfl
  . subst e;unfold iteB;split<;>rfl
 ·simp only[Xu e1]at H⊢
  by_cases e2:f=1
  . simp only[Xx e2];refine⟨by unfold Ca;omega,λhV ρ=>?_⟩;rw[key hV];subst e2;rw[Ep hV];rfl
  ·simp only[Xu e2]at H⊢
   by_cases O:g'=0/\h'=1
   . simp only[Xx O];refine⟨by unfold Ca;omega,λhV ρ=>?_⟩;rw[key hV,O.1,O.2,Ep hV,Eo hV];unfold iteB;cases ef _ f ρ<;>rfl
   ·simp only[Xu O]at H⊢
    by_cases I:g'=1/\h'=0
    . simp only[Xx I];have:=DA f;refine⟨by unfold Ca;omega,λhV ρ=>?_⟩;rw[key hV,I.1,I.2,Ep hV,Eo hV,DB];unfold iteB;cases ef _ f ρ<;>rfl
    . simp only[Xu I]at H;unfold iteM at H;split at H<;>cases H
def QV (H:(iteR f g h).dn=false):Ca (iteR f g h).a f g h/\Ca (iteR f g h).b f g h/\Ca (iteR f g h).c f g h/\(iteR f g h).a/2≠0 /\
 ∀{V:Nat->BF},(∀ρ,V 0 ρ=true)->∀ρ,iteB (ef V f ρ) (ef V g ρ) (ef V h ρ)=((iteR f g h).n != iteB (ef V (iteR f g h).a ρ) (ef V (iteR f g h).b ρ) (ef V (iteR f g h).c ρ)):=by
 have Y:=Lx f g;have X:=Ly f h;have key:∀{V:Nat->BF},(∀ρ,V 0 ρ=true)->∀ρ,iteB (ef V f ρ) (ef V g ρ) (ef V h ρ)=iteB (ef V f ρ) (ef V (sw1 f g) ρ) (ef V (sw2 f h) ρ):=λhV ρ=>by rw[Lv hV,Lw hV]
 unfold iteR at H⊢
 generalize sw1 f g=g' at *
 generalize sw2 f h=h' at *
 unfold iteK at H⊢
 by_cases e1:f=0\/g'=h'
 . simp[Xx e1]at H
 ·by_cases e2:f=1
  . simp[Xu e1,Xx e2]at H
  ·by_cases I:g'=0/\h'=1
   . simp[Xu e1,Xu e2,Xx I]at H
   ·by_cases U:g'=1/\h'=0
    . simp[Xu e1,Xu e2,Xu I,Xx U]at H
    ·simp only[Xu e1,Xu e2,Xu I,Xu U];unfold iteM
     by_cases O:eneg f=true
     . simp only[Xx O];have Z:=DA f;have a2:=Dt h' (eneg h');have a3:=Dt g' (eneg h');refine⟨by unfold Ca;omega,by unfold Ca;omega,by unfold Ca;omega,by omega,λhV ρ=>?_⟩;rw[key hV,DB,CD,CD];unfold iteB;cases ef _ f ρ<;>cases eneg h'<;>simp
     . simp only[Xu O];have a2:=Dt h' (eneg g');have a3:=Dt g' (eneg g');refine⟨by unfold Ca;omega,by unfold Ca;omega,by unfold Ca;omega,by omega,λhV ρ=>?_⟩;rw[key hV,CD,CD];unfold iteB;cases ef _ f ρ<;>cases eneg g'<;>simp
end Go.Proofs.YtnphndlbfeagbaaGreat
