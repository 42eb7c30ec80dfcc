/- Several texts in one file: contracts of the program's functions and what follows from them. -/
import Derived.Test.YtkidaindpahefaaGreatY8
import Derived.Ground.Names2Prog
import Derived.Shelf.Slices.Delete
import Derived.Shelf.Slices.Cells
import Derived.Shelf.Slices.Empties
import Derived.Test.YtkidaindpahefaaGreatProg
import Derived.Maps.OwnIn
import Derived.Shelf.Spec.SlicesInsert
import Derived.Laws.Tables
import Derived.Deep.WholeRow
set_option linter.unusedSimpArgs false
set_option linter.unusedVariables false
set_option linter.unusedSectionVars false
set_option linter.unnecessarySimpa false
set_option maxRecDepth 100000
set_option maxHeartbeats 8000000
namespace Go.Proofs.YtkidaindpahefaaGreat
open Go.Proofs.Tryz
open Go.RowKit
open Go.Proofs.Tryz
open Go.RowKit
end Go.Proofs.YtkidaindpahefaaGreat

namespace Go.Proofs
open Go.Proofs.Tryz
open Go.Shelf
def Tryz.laysNm223_ren:Go.Shelf.Ren:=⟨fun|23=>133|n=>n,fun|22=>22|3=>3|4=>4|0=>0|n=>n,fun|n=>n⟩
theorem Tryz.laysNm223:Go.Proofs.Lays2.n23 prog Tryz.laysNm223_ren:={
 mixed:=by kernel_rfl
 f23:=func133.trans (congrArg some (by kernel_rfl))
 t0:=underlying0
 a0:=Tryz.isAgg0
 z0:=Tryz.sizeOf0
 v0:=zeroValue0
 t3:=underlying3
 a3:=Tryz.isAgg3
 z3:=Tryz.sizeOf3
 v3:=zeroValue3
 t4:=underlying4
 a4:=Tryz.isAgg4
 z4:=Tryz.sizeOf4
 v4:=zeroValue4
 t22:=underlying22
 a22:=Tryz.isAgg22
 z22:=Tryz.sizeOf22
 v22:=zeroValue22
 i3:=by kernel_rfl }
open Go.RowKit Go.Lib Go.Sort in
theorem Tryz.slices_Delete_int_cells (b off n c i j:Nat)(zs:List Int)(w:World)(hz:n<=zs.length)(hcap:n<=c)(hm:c<=9223372036854775807)(hij:i<=j)(hj:j<=n)(hc:∀ j,j<zs.length->w.cell? ⟨b,off+j,none⟩=some (.int .i64 (zs.getD j 0)))(hf:∀ j,j<n->w.frozen? ⟨b,off+j,none⟩=false) :
 Calls prog 133 #[.slice (some ⟨b,off,none⟩) n c,.int .i64 i,.int .i64 j] w fun e w'=>e=.returned (.slice (some ⟨b,off,none⟩) (n-(j-i)) c)/\∃ q,w'=(w.drewN q).setCells b off (((zs.take n).take i++(zs.take n).drop j++List.replicate (j-i) 0).map (Value.int .i64)):=Any.slices_Delete_int_cells Tryz.laysNm223 b off n c i j zs w hz hcap hm hij hj hc hf
end Go.Proofs

namespace Go.Proofs.YtkidaindpahefaaGreat
open Go.Proofs.Tryz
open Go.RowKit
variable {B:Wd->Own->Prop}{C:Nat->Prop}{K:Law}{V:Nat->BF}{W W' w w' w0 wb:Wd}{ao:Option Addr}{base g mb n room:Nat}{fs hs:List (Int×BF)}{gs:List (List Int)}{ks zs:List Int}{m:ManD}{nx:Int}{o0:Own}{u v vl vx:Value}{ws0:List Ev}
def PreP (n:Nat)(b:List Int):Prop:=b.Nodup/\∀ x∈b,0<=x/\x<(n:Int)
theorem US {t:List Int}(h:Ay t=true)(hl:t.length=n):PreP n t:=by
 have h1:=(BI t).1 h;refine⟨VV.2 fun i j hi hj g0 e=>?_,fun x hx=>?_⟩
 . have:=h1.2 j hj i g0;rw[Az hi,Az hj] at this;exact this e
 . obtain⟨i,hi,rfl⟩:=Wj hx;have:=h1.1 i hi;rw[Az hi] at this;omega
open Go.RowKit Go.Shelf
attribute [local go_sem] XT
attribute [local go_sem] XT
def LwB (n base:Nat)(vl vx:Value)(hs:List (Int×BF)):Wd->Own->Prop:=fun W o=>LawL W o base vl (hs.map Prod.fst)/\LawX W o base vx (hs.map fun p=>tabB n p.2)
theorem LwB.keep :AR (LwB n base vl vx hs):=fun _ _ _ _ h hc=>⟨h.1.chg hc,h.2.chg hc⟩
structure Q23 (n:Nat)(hs:List (Int×BF))(nx:Int):Prop where
 n1:1<=n
 n6:n<=6
 h5:hs.length<=5
 nx:nx<=549755813888
 room:3*((two++hs).length*2^n)<=Bf n
section
variable {o:Own}{B':Wd->Own->Prop}{al:Option Addr}{cl:Nat}
theorem Q23.pow (q:Q23 n hs nx):2^n<=64:=Wo (by omega) q.n6
theorem Q23.size (q:Q23 n hs nx):hs.length*2^n+2^n<=1000:=by
 have h1:=q.pow;have h2:=Xx q.h5 h1;omega
theorem Fu :∀ p∈hs,p∈two++hs:=fun _ hp=>X0 _ hp
theorem LwB.arg (q:Q23 n hs nx)(h:LwB n w0.heap.size (.slice al hs.length cl) vx hs W o):ArgI w0 W o al (hs.map Prod.fst):=by
 obtain⟨a,c,e,h1⟩:=(IF h.1 h.2 Fu (by have:=q.h5;omega)).l;injection e with e1 e2 e3
 subst e1;refine⟨h1,fun x hx=>?_⟩;have hk:(Value.slice al hs.length cl).ownBlock=some x.block:=by rw[hx];rfl
 have:=h.1.own.lt _ hk;exact⟨this.2,this.1,h.1.no _ hk⟩
theorem LwB.tabs (q:Q23 n hs nx)(h:LwB n w0.heap.size vl vx hs W o):∃ a c,vx=.slice a (hs.map Prod.snd).length c/\CY n W a (hs.map Prod.snd):=by
 obtain⟨a,c,e,h1⟩:=(IF h.1 h.2 Fu (by have:=q.h5;omega)).tabs;exact⟨a,c,by rw[e,Vw],h1⟩
theorem UT :∀ i (h:i<(hs.map Prod.fst).length),((hs.map Prod.fst)[i],(hs.map Prod.snd)[i]'(by simpa using h))∈two++hs:=fun i h=>by
 simp only[XN];exact Fu _ (Vv _)
theorem Q23.big (q:Q23 n hs nx):(hs.map Prod.snd).length*2^n<=1000000000:=by
 rw[Vw];exact Vx (XR _ _) (Vx q.size (by omega))
end
theorem NG {p p':Addr}{x:Value}(h:W.cell? p=some v)(hp:p.spot=none)(hp':p'.spot=none)(hne:p.block≠p'.block\/p.off≠p'.off):(W.setCell p' x).cell? p=some v:=by
 obtain⟨b,o,s⟩:=p;obtain⟨b',o',s'⟩:=p';dsimp only at hp hp' hne;subst hp hp';exact Cs h (hne.imp Wi Wi)
theorem UU {x:Value}{B:Nat}(h:AL W v gs)(hv:v.ownBlock≠some B)(hc:W.cell? (Aw B 3)=some x)(hx:∀ i,x ≠ Iv i):AL (W.setCell (Aw B 3) u) v gs:=by
 obtain⟨a,c,xs,rfl,hn,hl,hs,g1⟩:=h;refine⟨a,c,xs,rfl,hn,hl,⟨hs.len,fun i h1 h2=>?_⟩,fun i hi=>?_⟩
 ·obtain⟨a2,c2,e,⟨q1,q2⟩,q3⟩:=hs.at_ i h1 h2;refine⟨a2,c2,e,⟨q1,fun k hk=>?_⟩,q3⟩;obtain⟨b,off,ea,g0⟩:=q2 k hk;refine⟨b,off,ea,NG g0 rfl rfl ?_⟩
  by_cases hb:b=B
  . right;intro ho;dsimp only at ho;rw[hb,ho,hc] at g0;exact hx _ (Xc g0)
  . exact .inl hb
 . obtain⟨b,off,ea,g0⟩:=g1 i hi;subst ea;exact⟨b,off,rfl,NG g0 rfl rfl (.inl fun e=>hv (by rw[<- (show b=B from e)];rfl))⟩
theorem UV {q:AskD}(h:D7 q):D7 { q with plan:=[] }:=⟨h.lo,h.hi,h.es,Vu _,h.order,rfl,fun ev hev=>by simp at hev,h.expr⟩
theorem UW (w:Wd):OwnI (w.alloc (.cells #[] 3)) w.heap.size (.slice (some (Av w.heap.size)) 0 0) []:=Cv 3 w w.heap.size (Vo _)
theorem FxO.argMine {P:List Nat->Prop}(h:FxO K n room w0 mb ws0 C o0 wb B P fs nx W)(hB:AR B)(hb:Bw W w')(hz:Au w' (some (Av g)) ks)(hg:W.heap.size<=g)(hg2:g<w'.heap.size) :
 FxO K n room w0 mb ws0 C o0 wb (fun W o=>B W o/\ArgB w0 (some (Av g)) ks W o) P fs nx w':=by
 obtain⟨o,m,V,h1,h2,h3,h4⟩:=h;have hc:=ChgX.of_below hb o NoB;exact⟨o,m,V,h1.trans hc NoB.sub,h2,h3.below hb,hB _ _ _ _ h4 hc,hz,fun x hx=>by cases hx;exact⟨hg2,Vx h3.chg.size hg,h3.lt.none hg⟩⟩
theorem LwB.size18 {o:Own}(q:Q23 n hs nx)(h:LwB n w0.heap.size vl vx hs W o)(hd:∀ p∈hs,DepF n p.2){ts:List Int}(hr:Ay ts=true)(hl:ts.length=n){co:Nat}(hz:Au W ao ts) :
 Cl 26 #[vx,.slice ao n co] W (Bl (Iv (szO n (hs.map Prod.snd) ts:Nat)) W):=by
 obtain⟨a,c,rfl,ht⟩:=h.tabs q;have hp:=US hr hl;have et:(ts.map Int.toNat).map Int.ofNat=ts:=by
  rw[Xe];refine(X6 fun x hx=>?_).trans (List.map_id _);have:=(hp.2 x hx).1
  show ((x.toNat:Nat):Int)=x
  omega
 have g0:(ts.map Int.toNat).length=n:=by simpa using hl
 have hq:=q.size
 have:=UM (n:=n) (by have:=q.n6;omega) (os:=ts.map Int.toNat) g0 (fun v hv=>by
  obtain⟨x,hx,rfl⟩:=Vz.1 hv;have:=hp.2 x hx;omega) (fun v hv=>Vz.2 ⟨(v:Int),KO hr hl ⟨by omega,by omega⟩,by simp⟩) (fa:=a) (fc:=c) (ao:=ao) (co:=co) (w:=W) ht (fun G hG=>by
  obtain⟨p,hp,rfl⟩:=Vz.1 hG;exact hd p hp) (by rw[et];exact hz) (by rw[Vw];exact hq)
 rw[g0] at this;exact this
end Go.Proofs.YtkidaindpahefaaGreat

namespace Go.Proofs
open Go.Proofs.Tryz
open Go.Shelf
def Tryz.laysNm221_ren:Go.Shelf.Ren:=⟨fun|21=>156|27=>213|28=>214|35=>254|39=>155|n=>n,fun|22=>22|3=>3|4=>4|0=>0|n=>n,fun|n=>n⟩
theorem Tryz.laysNm221:Go.Proofs.Lays2.n21 prog Tryz.laysNm221_ren:={
 mixed:=by kernel_rfl
 f21:=func156.trans (congrArg some (by kernel_rfl))
 f27:=func213.trans (congrArg some (by kernel_rfl))
 f28:=func214.trans (congrArg some (by kernel_rfl))
 f35:=func254.trans (congrArg some (by kernel_rfl))
 f39:=func155.trans (congrArg some (by kernel_rfl))
 t0:=underlying0
 a0:=Tryz.isAgg0
 z0:=Tryz.sizeOf0
 v0:=zeroValue0
 t3:=underlying3
 a3:=Tryz.isAgg3
 z3:=Tryz.sizeOf3
 v3:=zeroValue3
 t4:=underlying4
 a4:=Tryz.isAgg4
 z4:=Tryz.sizeOf4
 v4:=zeroValue4
 t22:=underlying22
 a22:=Tryz.isAgg22
 z22:=Tryz.sizeOf22
 v22:=zeroValue22
 i3:=by kernel_rfl }
end Go.Proofs

namespace Go.Proofs.YtkidaindpahefaaGreat
open Go.Proofs.Tryz
open Go.RowKit
variable {B:Wd->Own->Prop}{C:Nat->Prop}{Fs:List BF}{K:Law}{Od P':List Nat->Prop}{P:Program}{V:Nat->BF}{W w w' w0 wb:Wd}{base c f g gb gf mb n room t:Nat}{fs:List (Int×BF)}{gs:List (List Int)}{ks zs:List Int}{lop:Array Value}{lv v:Value}{m:ManD}{nx:Int}{o0:Own}{pl:List Nat}{ws0:List Ev}
theorem UX (h:OwnI w base (.slice (some (Av g)) n n) zs)(hg:base<=g)(hf:f<n)(hn:n<1000000) :
 Cl 133 #[.slice (some (Av g)) n n,Iv f,Iv ((f:Int)+1)] w fun e w' =>
  e=.returned (.slice (some (Av g)) (n-1) n)/\OwnI w' base (.slice (some (Av g)) n n) (zs.take f++zs.drop (f+1)++[0])/\Below base w w':=by
 obtain rfl:=h.len;have g0:=Tryz.slices_Delete_int_cells g 0 zs.length zs.length f (f+1) zs w (Vo _) (Vo _) (by omega) (by omega) (by omega) (fun j hj=>by rw[VJ];exact h.cell j hj) (fun j hj=>by rw[VJ];exact h.frozen j);rw[show ((f+1:Nat):Int)=(f:Int)+1 by omega,show f+1-f=1 by omega,VI] at g0;refine g0.mono fun e w' ⟨he,q,hw⟩=>⟨he,?_,?_⟩
 . subst hw;have:=OwnI.setCells (zs.take f++zs.drop (f+1)++[0]) (w.drewN q) 0 zs (h.drewN q) (by simp;omega);have e:zs.drop (0+(zs.take f++zs.drop (f+1)++[0]).length)=[]:=WL (by simp;omega);rw[e,XZ,Wz,WM] at this;exact this
 . subst hw;exact Gt hg _ _ _ (Cr (VA _ _) _)
theorem UY (h:OwnI w base (.slice (some (Av g)) n c) zs)(hp:0<zs.length):∃ k,w.shape? g=some (3,k)/\k≠0:=by
 rcases h.2 with ⟨hv,_⟩|⟨g',cap,cur,hv,hb,hg,g0,g2,g1,_⟩
 . cases hv
 . simp only[X1,VY,Addr.mk.injEq,and_true] at hv;obtain⟨rfl,_,rfl⟩:=hv;exact⟨cur.size,by simp[World.shape?,hg],by omega⟩
theorem UZ {vb:Nat}{m:List Int}{x z:Int}(h:OwnI w base (.slice (some (Av g)) n n) (m++[z]))(hg:base<=g)(ht:t<n)(hn:n<1000000)
 (hvb:vb≠g) (hv:w.heap[vb]?=some (.cells #[Iv x] 3 (0,0))) :
 Cl 156 #[.slice (some (Av g)) (n-1) n,Iv t,.slice (some (Av vb)) 1 1] w fun e w' =>
  e=.returned (.slice (some (Av g)) n n)/\OwnI w' base (.slice (some (Av g)) n n) (m.take t++[x]++m.drop t)/\Below base w w':=by
 have hl:=h.len;simp only[Vr,VG,WI] at hl;have g2:∀ j v,[Value.int .i64 x][j]?=some v->w.cell? (Aw vb (0+j))=some v:=by
  intro j v hj;cases j with
  | zero=>simp at hj;subst hj;simp[World.cell?,hv]
  | succ j=>simp at hj
 have g1:∀ j,j<n->(w.cell? (Aw g (0+j))).isSome=true:=fun j hj=>by rw[VJ,h.cell j (by simp;omega)];rfl
 have g4:∀ j,w.frozen? (Aw g (0+j))=false:=fun j=>by rw[VJ];exact h.frozen j
 by_cases g5:t=n-1
 ·subst g5;have g0:=Any2.slices_Insert_int_end_room Tryz.laysNm221 g 0 (n-1) n vb 0 1 1 [Iv x] w (by omega) (by omega) (by omega) rfl
   (fun j hj=>by have:=g1 (n-1+j) (by omega);rwa [<- Xu] at this) (fun j hj=>by have:=g4 (n-1+j);rwa [<- Xu] at this) g2 (ints_oneCell .i64 [x])
  refine g0.mono fun e w' ⟨he,hw⟩=>⟨?_,?_,?_⟩
  . rw[he,show n-1+1=n by omega]
  ·subst hw;have:=OwnI.setCells [x] w (0+(n-1)) (m++[z]) h (by simp;omega);have e1:(m++[z]).take (0+(n-1))++[x]++(m++[z]).drop (0+(n-1)+[x].length)=m.take (n-1)++[x]++m.drop (n-1):=by
    have hm:m.length=n-1:=by omega
    rw[VJ,List.take_append_of_le_length (by omega),WL (by simp;omega),WL (by omega)]
   rw[e1] at this;exact this
  . subst hw;exact Gt hg _ _ _ (VA _ _)
 ·obtain⟨kb,g6,g8⟩:=UY h (by simp);have g9:∀ j v,(Aq m)[j]?=some v->w.cell? (Aw g (0+j))=some v:=by
   intro j v hj;have g3:j<m.length:=by
    rcases VB j m.length with h'|h'
    . exact h'
    . simp[Aq,VE h'] at hj
   simp[Aq,getElem?_at0 g3] at hj;subst hj;rw[VJ,h.cell j (by simp;omega)];simp[at0,List.getD,VN g3]
  have g0:=Any2.slices_Insert_int_shift Tryz.laysNm221 g 0 (n-1) n t vb 0 1 1 (Aq m) [Iv x] w (by omega) (by omega) (by omega) (by omega) hvb (by rw[Fv];omega) rfl
   g9 (fun j hj=>g1 j (by omega)) (fun j _=>g4 j) g2 (ints_oneCell .i64 m) (ints_oneCell .i64 [x]) 3 3 1 kb (by simp[World.shape?,hv]) g6 g8 (by simp[World.frozen?,hv]) (by simp[World.frozen?,hv])
  refine g0.mono fun e w' ⟨he,hw⟩=>⟨?_,?_,?_⟩
  . rw[he,show n-1+1=n by omega]
  ·subst hw;have e0:(Aq m).drop t=Aq (m.drop t):=by simp[Aq,List.map_drop]
   rw[e0];have h1:=OwnI.setCells (m.drop t) w.drew (0+(t+1)) (m++[z]) h (by simp;omega);have h2:=OwnI.setCells [x] _ (0+t) _ h1 (by rw[<- h1.len];simp;omega);have e1:((m++[z]).take (0+(t+1))++m.drop t++(m++[z]).drop (0+(t+1)+(m.drop t).length)).take (0+t)++[x]++((m++[z]).take (0+(t+1))++m.drop t++(m++[z]).drop (0+(t+1)+(m.drop t).length)).drop (0+t+[x].length)=m.take t++[x]++m.drop t:=by
    have e3:(m++[z]).take (t+1)=m.take (t+1):=List.take_append_of_le_length (by omega);have e4:(m++[z]).drop (t+1+(m.drop t).length)=[]:=WL (by simp;omega);rw[VJ,VJ,e3,e4,WM];have g7:(m.take (t+1)).length=t+1:=by simp;omega
    have hd:(m.take (t+1)++m.drop t).drop (t+[x].length)=m.drop t:=by
     have:=List.drop_left (l₁:=m.take (t+1)) (l₂:=m.drop t);rw[g7] at this;exact this
    rw[hd,List.take_append_of_le_length (by omega),List.take_take,show min t (t+1)=t by omega]
   rw[e1] at h2;exact h2
  . subst hw;exact Gt hg _ _ _ (Gt hg _ _ _ (Cr (VA _ _) 1))
theorem Va (a:Option Addr)(c:Nat)(zs:List Int)(f t:Int)(w:Wd)(h:Au w a zs)(hlen:zs.length<1000000) :
 Cl 105 #[.slice a zs.length c,Iv f,Iv t] w fun e w'=>∃ v,e=.returned v/\OwnI w' w.heap.size v (Cw zs f t)/\Bw w w':=by
 have HI:=Hd h;clear h
 by_cases g4:(0<=f/\f<zs.length)/\(0<=t/\t<zs.length)
 ·obtain⟨⟨ge,gh⟩,gd,gg⟩:=g4;obtain⟨f,rfl⟩:=X9 ge;obtain⟨t,rfl⟩:=X9 gd;have g9:f<zs.length:=by omega
  have g8:t<zs.length:=by omega
  have d1:decide ((f:Int)<0)=false:=by simp
  have d2:decide ((zs.length:Int)<=f)=false:=by simp;omega
  have d3:decide ((t:Int)<0)=false:=by simp
  have d4:decide ((zs.length:Int)<=t)=false:=by simp;omega
  have HF:=Hd (KK g9 g8)
  go_enter func105,ntmps105
  go_wp2_with fail;refine(E5 _ _ zs _ HI.o hlen).mono ?_;rintro e w1 ⟨g,rfl,g0,g1⟩;have hg:w.heap.size<=g:=(g0.lt g rfl).1;have q0:=g0.cell f (by omega);go_wp2_with fail;refine(UX g0 hg g9 hlen).mono ?_;rintro e w2 ⟨rfl,g3,g7⟩;have ga:=g1.trans g7;have gf:=(g3.lt g rfl).2;go_wp2_with fail;have g5:=g3.alloc (.cells #[Iv (at0 zs f)] 3);refine(UZ (vb:=w2.heap.size) (x:=at0 zs f) g5 hg g8 hlen (by omega) (Vq w2 _)).mono ?_;rintro e w3 ⟨rfl,g2,g6⟩;have gc:=ga.size;go_wp2_with fail;go_ret;refine⟨_,rfl,?_,(ga.alloc gc _).trans g6⟩;rw[HF.o] at g2;exact g2
 ·have HF:=Hd (Qa g4);have HX:=Hd g4;clear g4
  by_cases c1:f<0
  ·have d1:decide (f<0)=true:=by simpa using c1
   go_enter func105,ntmps105
   go_wp2_with fail;refine(E5 _ _ zs _ HI.o hlen).mono ?_;rintro e w1 ⟨g,rfl,g0,g1⟩;go_wp2_with fail;go_ret;exact⟨_,rfl,by rw[HF.o];exact g0,g1⟩
  ·have d1:decide (f<0)=false:=by simpa using c1
   by_cases c2:(zs.length:Int)<=f
   ·have d2:decide ((zs.length:Int)<=f)=true:=by simpa using c2
    go_enter func105,ntmps105
    go_wp2_with fail;refine(E5 _ _ zs _ HI.o hlen).mono ?_;rintro e w1 ⟨g,rfl,g0,g1⟩;go_wp2_with fail;go_ret;exact⟨_,rfl,by rw[HF.o];exact g0,g1⟩
   ·have d2:decide ((zs.length:Int)<=f)=false:=by simpa using c2
    by_cases c3:t<0
    ·have d3:decide (t<0)=true:=by simpa using c3
     go_enter func105,ntmps105
     go_wp2_with fail;refine(E5 _ _ zs _ HI.o hlen).mono ?_;rintro e w1 ⟨g,rfl,g0,g1⟩;go_wp2_with fail;go_ret;exact⟨_,rfl,by rw[HF.o];exact g0,g1⟩
    ·have d3:decide (t<0)=false:=by simpa using c3
     have c4:(zs.length:Int)<=t:=by have:=HX.o;omega
     have d4:decide ((zs.length:Int)<=t)=true:=by simpa using c4
     go_enter func105,ntmps105
     go_wp2_with fail;refine(E5 _ _ zs _ HI.o hlen).mono ?_;rintro e w1 ⟨g,rfl,g0,g1⟩;go_wp2_with fail;go_ret;exact⟨_,rfl,by rw[HF.o];exact g0,g1⟩
theorem NH (t e:TypeId)(n:Nat)(cs:Array Value)(i:Nat)(v:Value)(w:Wd)(h:P.underlying t=some (.array n e))(h1:(P.info? e).map (·.size)=some 1)(h2:(isAgg e).run P w=.ok false w)(hi:i<n)(hv:cs[i]?=some v):(Instr.index t (.agg cs) (Iv i)).run P w=.ok v w:=by
 have h3:(sizeOf e).run P w=.ok 1 w:=by
  cases hq:P.info? e with
  | none=>simp[hq] at h1
  | some x =>
    simp[hq] at h1;simp[sizeOf,typeInfo,hq,h1]
 simp[Instr.index,VP h,asIntOf,hi,h3,part,h2,hv]
section
variable {r:List (Int×BF)}{P:List Nat->Prop}
structure SizC (K:Law)(n room:Nat)(w0:Wd)(mb:Nat)(ws0:List Ev)(C:Nat->Prop)(o0:Own)(wb:Wd)(B:Wd->Own->Prop)(Fs:List BF)(fs:List (Int×BF))(nx:Int)(gf:Nat)(lop:Array Value):Prop where
 eg:∀ args w,(callFunc gf args).run prog w=.ok (.enter gf args) w
 ask:∀ B':Wd->Own->Prop,AR B'->(∀ W o,B' W o->B W o)->∀ zs W,FxO K n room w0 mb ws0 C o0 wb B' (fun l=>l.map Int.ofNat=zs) fs nx W->Calls prog gf lop W fun e w'=>e=.returned (.tuple #[Iv (szO n Fs zs:Nat),Iv 0])/\FxO K n room w0 mb ws0 C o0 wb B' (fun l=>l.map Int.ofNat=zs) fs nx w'
theorem Vb (hB:AR B)(hg:∀ W o,B W o->GrB mb gb lv gs W o)(hw:Cn gs n)(hgl:gs.length<=3000)(hn:nx<=549755813888)(hr:3*(fs.length*2^n)<=room)(hsz:Fs.length*2^n<=1000000000)(hc:SizC K n room w0 mb ws0 C o0 wb B Fs fs nx gf lop)(hpl:Placed gs (levZ (gather gs pl)) pl)(i g:Nat)(hgr:g<=1000)
 (h:FxO K n room w0 mb ws0 C o0 wb B (fun l=>l.map Int.ofNat=gather gs pl) fs nx W) :
 Cl 66 #[Pt gb,Iv (i:Nat),Iv (g:Nat),.func (.func gf) #[] lop] W fun e w'=>e=.returned (Iv 0)/\∃ pl',pl'.Perm pl/\szO n Fs (gather gs pl')<=szO n Fs (gather gs pl)/\FxO K n room w0 mb ws0 C o0 wb B (fun l=>l.map Int.ofNat=gather gs pl') fs nx w':=by
 have hn64:n<=64:=by obtain⟨o,m,V,_,_,h3,_⟩:=h;have:=h3.ok.store.small;rw[h3.vars] at this;exact this
 have eg:=hc.eg;obtain⟨sz,g0⟩:=Ex (fun p=>szO n Fs (gather gs p):List Nat->Nat)
 have gz:Hq (∀ p,sz p<=1000000000):=Hd fun p=>by rw[g0];exact Vx (UA n Fs _) hsz
 obtain⟨S,hS⟩:=Ex (fun p W=>FxO K n room w0 mb ws0 C o0 wb B (fun l=>l.map Int.ofNat=gather gs p) fs nx W:List Nat->Wd->Prop)
 obtain⟨T,hT⟩:=Ex (fun v p W=>FxO K n room w0 mb ws0 C o0 wb (fun W o=>B W o/\AM v (pl.map Int.ofNat) W o) (fun l=>l.map Int.ofNat=gather gs p) fs nx W:Value->List Nat->Wd->Prop)
 have gn:Hq (∀ W p,S p W->Calls prog gf lop W fun e w'=>e=.returned (.tuple #[Iv (sz p:Nat),Iv 0])/\S p w'):=Hd fun W p h=>by
  rw[hS] at h ⊢;rw[g0]
  exact hc.ask B hB (fun _ _ h=>h) _ W h
 have ga:Hq (∀ v W p,T v p W->Calls prog gf lop W fun e w'=>e=.returned (.tuple #[Iv (sz p:Nat),Iv 0])/\T v p w'):=Hd fun v W p h=>by
  rw[hT] at h ⊢;rw[g0]
  exact hc.ask _ (hB.and AM.keep) (fun _ _ h=>h.1) _ W h
 have gy:Hq (∀ W,S pl W->Cl 111 #[Pt gb] W fun e w'=>∃ a c,e=.returned (.slice a pl.length c)/\pl.length<=3000/\T (.slice a pl.length c) pl w'):=Hd fun W h=>by
  rw[hS] at h;rw[hT]
  refine(MR hB h hg hw hgl hn64).mono ?_;rintro e w' ⟨v,l,p2,rfl,hl,hP,_,hp2,gv,hf⟩;rw[hP] at hp2;obtain rfl:=hp2.uniq hpl;have hs:SliceIs w' v (p2.map Int.ofNat):=hf.know (Q:=fun W=>SliceIs W v (p2.map Int.ofNat)) fun W o hh=>hh.2.slice
  obtain⟨a,c,rfl,_,_⟩:=hs;rw[Vw] at hf ⊢;exact⟨a,c,rfl,gv,hf.imp fun l' _ e=>by rw[e];exact hP⟩
 have gh:Hq (∀ a c W p,T (.slice a pl.length c) p W->∀ j,j<pl.length->∃ b off,a=some (Aw b off)/\W.cell? (Aw b (off+j))=some (Iv (pl.getD j 0:Nat))):=Hd fun a c W p h j hj=>by
  rw[hT] at h;have hs:SliceIs W (.slice a pl.length c) (pl.map Int.ofNat):=h.know (Q:=fun W=>SliceIs W (.slice a pl.length c) (pl.map Int.ofNat)) fun W o hh=>hh.2.slice
  obtain⟨a',c',e,hz,_⟩:=hs;injection e with e1 _ _
  subst e1;obtain⟨b,off,h1,h2⟩:=hz.cells j (by simpa using hj);rw[CE hj] at h2;exact⟨b,off,h1,h2⟩
 have g8:Hq (∀ a c W p f t,T (.slice a pl.length c) p W->f<pl.length->t<pl.length->Cl 105 #[.slice a pl.length c,Iv (f:Nat),Iv (t:Nat)] W fun e w'=>∃ u,e=.returned u/\Hq (Cl 110 #[Pt gb,u] w' fun e w2=>e=.returned (Iv 0)/\T (.slice a pl.length c) (BZ pl f t) w2)):=Hd fun a c W p f t h hf ht=>by
  rw[hT] at h ⊢;have hs:SliceIs W (.slice a pl.length c) (pl.map Int.ofNat):=h.know (Q:=fun W=>SliceIs W (.slice a pl.length c) (pl.map Int.ofNat)) fun W o hh=>hh.2.slice
  obtain⟨a',c',e,hz,_⟩:=hs;injection e with e1 _ _
  subst e1;have gv:pl.length<=3000:=by
   have h1:pl.length<=gs.length:=by
    have gA:pl ⊆ List.range gs.length:=fun j hj=>Xb.2 ((hpl.mem j).1 hj).1
    have:=List.Nodup.length_le_of_subset hpl.nodup gA;simpa using this
   omega
  have h1:=Va a c (pl.map Int.ofNat) (f:Int) (t:Int) W hz (by rw[Vw];omega);rw[Vw] at h1;refine h1.mono ?_;rintro e w' ⟨u,rfl,ho,hb⟩;have gu:=NF hf ht;have gl:=J1 hw hpl gu;obtain⟨g1,g2⟩:=FX hw gl;have gX:(BZ pl f t).length=pl.length:=gu.length_eq;rw[<- UQ hf ht] at ho;have gD:=ho.sliceIs (by rw[Vw];omega);refine⟨u,rfl,Hd ?_⟩;refine(MY ((hB.and AM.keep).and AM.keep) (h.mine (hB.and AM.keep) hb gD fun k hk=>ho.lt k hk) (fun W o hh=>hg W o hh.1.1) hn hr (fun W o hh=>hh.2.slice) (fun j hj=>((gl.mem j).1 hj).1) (by omega) hgl g1 g2).mono ?_;rintro e w2 ⟨rfl,h2⟩;exact⟨rfl,h2.withB fun _ _ _ _ hh=>hh.1⟩
 obtain⟨Q,hQ⟩:=Ex (fun e w'=>e=.returned (Iv 0)/\∃ pl',pl'.Perm pl/\szO n Fs (gather gs pl')<=szO n Fs (gather gs pl)/\FxO K n room w0 mb ws0 C o0 wb B (fun l=>l.map Int.ofNat=gather gs pl') fs nx w':Ending->Wd->Prop)
 have gx:Hq (∀ v w',T v pl w'->Q (.returned (Iv 0)) w'):=Hd fun v w' h=>by
  rw[hT] at h;rw[hQ]
  exact⟨rfl,pl,List.Perm.refl _,Vo _,h.withB fun _ _ _ _ hh=>hh.1⟩
 have gg:Hq (∀ v w' f x,f<pl.length->x<pl.length->sz (BZ pl f x)<=sz pl->T v (BZ pl f x) w'->Q (.returned (Iv 0)) w'):=Hd fun v w' f x hf hx g6 h=>by
  rw[hT] at h;rw[hQ];rw[g0] at g6
  exact⟨rfl,_,NF hf hx,g6,h.withB fun _ _ _ _ hh=>hh.1⟩
 have ge:Hq (∀ f,f<pl.length->sz (BZ pl f f)=sz pl):=Hd fun f hf=>by rw[UR hf]
 have H0:Hq (S pl W):=Hd (by rw[hS];exact h);rw[<- hQ];clear h hB hg hw hgl hn hr hsz hc hpl g0 hS hT hQ hn64
 go_enter func66,ntmps66
 go_wp2_with fail;refine(gn.o W pl H0.o).mono ?_;rintro y w1 ⟨rfl,hs1⟩;have HP:=Hd (gy.o w1 hs1);obtain⟨s0,gk⟩:∃ q,q=sz pl:=⟨_,rfl⟩;rw[<- gk];have gw:=Hd gk;clear hs1 gk gn gy H0;go_wp2_with fail;refine HP.o.mono ?_;rintro y w2 ⟨a,c,rfl,gK,gt⟩;have gd:=Hd gt;obtain⟨M,hM⟩:∃ q,q=pl.length:=⟨_,rfl⟩;rw[<- hM] at gh g8 gg ge gd gK ⊢;clear gt hM HP;go_wp2_with fail
 go_loopw [12] (fun s12 wr=>∃ j:Nat,j<=M/\s12=Iv (j:Nat)/\wr=w2) (fun s12 _=>M-(intOf s12).toNat)
 case atStart=>exact⟨0,Vu _,rfl,rfl⟩
 case round =>
  obtain⟨j,hj,rfl,rfl⟩:=hrel
  by_cases g3:j<M
  ·obtain⟨bv,ov,rfl,cv⟩:=gh.o a c wr pl gd.o j g3;have gH:(j:Int)<(M:Int):=by omega
   obtain⟨x0,gq⟩:∃ q,q=pl.getD j 0:=⟨_,rfl⟩;rw[<- gq] at cv;clear gq
   by_cases gi:x0=i
   ·have gC:((x0:Int) != (i:Int))=false:=by simp[gi]
    have gY:((j:Int) == (M:Int))=false:=by rw[Xq];omega
    clear gi;have gZ:(M:Int)<=3000:=by omega
    go_wp2_with fail
    go_loopw [8,9,13,15,16,17,18,19,50] (fun _ s9 s13 _ _ _ _ _ s50 wr=>∃ (q l x:Nat) (p:List Nat),q<=2/\s50=Iv (q:Nat)/\s9=Iv (l:Nat)/\s13=Iv (x:Nat)/\x<M/\Hq (l=sz (BZ pl j x)/\l<=s0)/\Hq (T (.slice (some (Aw bv ov)) M c) p wr)) (fun _ _ _ _ _ _ _ _ s50 _=>2-(intOf s50).toNat)
    case atStart=>exact⟨0,s0,j,pl,by omega,rfl,rfl,rfl,g3,Hd ⟨by rw[ge.o j g3,gw.o],Vo _⟩,gd⟩
    case round =>
     obtain⟨q,l,x,p,hq,rfl,rfl,rfl,hx,HL,HT⟩:=hrel
     rename Wd=>wo
     by_cases gS:q<2
     ·have gR:(q:Int)<2:=by omega
      obtain⟨d,HD,h0⟩:∃ d:Int,Hq (d=1\/d = -1)/\∀ W,(Instr.index 156 (.agg #[Iv 1,Iv (-1)]) (Iv (q:Nat))).run prog W=.ok (Iv d) W:=by
       rcases(show q=0\/q=1 by omega) with rfl|rfl
       . exact⟨1,Hd (.inl rfl),fun W=>NH _ _ _ _ 0 _ W underlying156 (by kernel_rfl) (by simp[isAgg,VP underlying3]) (by omega) rfl⟩
       . exact⟨-1,Hd (.inr rfl),fun W=>NH _ _ _ _ 1 _ W underlying156 (by kernel_rfl) (by simp[isAgg,VP underlying3]) (by omega) rfl⟩
      have gJ : -1<=d/\d<=1:=by rcases HD.o with h|h<;>omega
      obtain⟨h5,h4⟩:=gJ;have gI:IntKind.i64.wrap ((j:Int)+d)=(j:Int)+d:=Wq _ (by omega);go_wp2_with fail
      go_loopw [8,9,13,16,17,18,19] (fun _ s9 s13 s16 _ _ _ wr=>∃ (l x:Nat) (z:Int) (p:List Nat),s9=Iv (l:Nat)/\s13=Iv (x:Nat)/\s16=Iv z/\-1<=z/\z<=(M:Int)/\x<M/\Hq (l=sz (BZ pl j x)/\l<=s0)/\Hq (T (.slice (some (Aw bv ov)) M c) p wr)) (fun _ _ _ s16 _ _ _ _=>if d=1 then ((M:Int)-intOf s16).toNat else (intOf s16+1).toNat)
      case atStart=>exact⟨l,x,(j:Int)+d,p,rfl,rfl,rfl,by omega,by omega,hx,HL,HT⟩
      case round =>
       clear HT HL hx gI;obtain⟨l,x,z,p,rfl,rfl,rfl,gP,gO,hx,HL,HT⟩:=hrel
       by_cases gQ:z>=0
       ·by_cases gN:z<(M:Int)
        ·obtain⟨t,rfl⟩:∃ t:Nat,z=(t:Int):=⟨z.toNat,by omega⟩;have gr:t<M:=by omega
         have HM:=Hd (g8.o _ c wr p j t HT.o g3 gr);clear HT;go_wp2_with fail;refine HM.o.mono ?_;rintro y w5 ⟨u,rfl,g7⟩;clear HM;go_wp2_with fail;refine g7.o.mono ?_;rintro y w6 ⟨rfl,g4⟩;have gp:=Hd (ga.o _ w6 _ g4);clear g4 g7;go_wp2_with fail;refine gp.o.mono ?_;rintro y w7 ⟨rfl,gj⟩;have gm:=Hd gj;have g6:=gz.o (BZ pl j t);obtain⟨sn,gc⟩:∃ q,q=sz (BZ pl j t):=⟨_,rfl⟩;rw[<- gc] at g6 ⊢;have go:=Hd gc;have gG:l<=1000000000:=by rw[HL.o.1];exact gz.o _
         have gF:IntKind.i64.wrap (100*(sn:Int))=((100*sn:Nat):Int):=by
          rw[Int.natCast_mul];exact Wq _ (by omega)
         have gE:IntKind.i64.wrap (100+(g:Int))=((100+g:Nat):Int):=by
          rw[Int.natCast_add];exact Wq _ (by omega)
         have g5:∀ y:Nat,y<=1000000000->IntKind.i64.wrap (((100+g:Nat):Int)*(y:Int))=(((100+g)*y:Nat):Int):=fun y hy=>by
          rw[Int.natCast_mul];have:=Xx (show 100+g<=1100 by omega) hy;rw[<- Int.natCast_mul];exact Wq _ (by omega)
         have gV:IntKind.i64.wrap ((t:Int)+d)=(t:Int)+d:=Wq _ (by omega);obtain⟨G,hG⟩:∃ q,q=100+g:=⟨_,rfl⟩;rw[<- hG] at gE g5;obtain⟨A,hA⟩:∃ q,q=100*sn:=⟨_,rfl⟩;rw[<- hA] at gF
         by_cases gU:sn<l
         ·have gB:(sn:Int)<(l:Int):=by omega
          have g9:=g5 sn g6;obtain⟨E,hE⟩:∃ q,q=G*sn:=⟨_,rfl⟩;rw[<- hE] at g9;have gT:¬ (A:Int)>(E:Int):=by
           have:100*sn<=G*sn:=Wn _ (by omega);omega
          have gM:Hq (sn=sz (BZ pl j t)/\sn<=s0):=Hd ⟨go.o,by have:=HL.o.2;omega⟩;clear HL g5 hG hA hE gc gj go gp;go_wp2_with fail;go_roundw
          case rel=>exact⟨sn,t,(t:Int)+d,_,rfl,rfl,by first|rfl|go_num,by omega,by omega,gr,gM,gm⟩
          case measure=>rcases HD.o with h|h<;>simp[intOf,h]<;>omega
         ·have gB:¬ (sn:Int)<(l:Int):=by omega
          have g9:=g5 l gG;obtain⟨E,hE⟩:∃ q,q=G*l:=⟨_,rfl⟩;rw[<- hE] at g9;clear g5 hG hA hE gc gj go gp
          by_cases h6:(A:Int)>(E:Int)
          ·go_wp2_with fail;go_roundw
           case rel=>exact⟨q+1,l,x,_,by omega,by go_num,rfl,rfl,hx,HL,gm⟩
           case measure=>simp[intOf];omega
          ·go_wp2_with fail;go_roundw
           case rel=>exact⟨l,x,(t:Int)+d,_,rfl,rfl,by first|rfl|go_num,by omega,by omega,hx,HL,gm⟩
           case measure=>rcases HD.o with h|h<;>simp[intOf,h]<;>omega
        ·go_wp2_with fail;go_roundw
         case rel=>exact⟨q+1,l,x,p,by omega,by go_num,rfl,rfl,hx,HL,HT⟩
         case measure=>simp[intOf];omega
       ·go_wp2_with fail;go_roundw
        case rel=>exact⟨q+1,l,x,p,by omega,by go_num,rfl,rfl,hx,HL,HT⟩
        case measure=>simp[intOf];omega
     ·obtain rfl:q=2:=by omega
      have HM:=Hd (g8.o _ c wo p j x HT.o g3 hx);have gL:Hq (sz (BZ pl j x)<=sz pl):=Hd (by rw[<- HL.o.1,<- gw.o];exact HL.o.2);clear HT HL;go_wp2_with fail;refine HM.o.mono ?_;rintro y w5 ⟨u,rfl,g7⟩;clear HM;go_wp2_with fail;refine g7.o.mono ?_;rintro y w6 ⟨rfl,g4⟩;have HF:=Hd (gg.o _ w6 j x g3 hx gL.o g4);clear g4 g7 gh g8 gg gx ge ga;go_wp2_with fail
      first|exact HF.o|(go_ret;exact HF.o)
   ·have gC:((x0:Int) != (i:Int))=true:=by rw[bne_iff_ne];omega
    clear gi;go_wp2_with fail;go_roundw
    case rel=>exact⟨j+1,by omega,by go_num,by first|rfl|trivial⟩
    case measure=>simp[intOf];omega
  ·obtain rfl:j=M:=by omega
   have HF:=Hd (gx.o _ wr gd.o);have gH:¬ (j:Int)<(j:Int):=by omega
   clear gh g8 gg ge ga;go_wp2_with fail
   first|exact HF.o|(go_ret;exact HF.o)
end
section
variable {o:Own}
def known (fs:List (Int×BF))(k:Int):Prop:=∃ F,(k,F)∈fs
theorem NI (h:SatE K n Od room w0 mb fs nx w o m V)(k:Int){b:Bool}(hb:b=true↔known fs k):Cl 20 #[Pt mb,Iv k] w (Sm (.bool b) w):=by
 cases b with
 | true =>
   obtain⟨F,hF⟩:=hb.1 rfl;exact IX h hF
 | false=>exact SD h (fun p hp e=>by
  have:known fs k:=⟨p.2,by rw[<- e];exact hp⟩;have:=hb.2 this;cases this)
end
section
variable {r:List (Int×BF)}{P:List Nat->Prop}
theorem Vc (args:Array Value)(w:Wd):(callFunc 66 args).run prog w=.ok (.enter 66 args) w:=XQ func66 (by kernel_rfl) rfl args w
theorem NJ (args:Array Value)(w:Wd):(callFunc 64 args).run prog w=.ok (.enter 64 args) w:=XQ func64 (by kernel_rfl) rfl args w
theorem Vd {bg bl:Nat}{a:Option Addr}(hg:∀ W o,B W o->GrB mb gb lv gs W o)(hl:∀ W o,B W o->ArgI w0 W o a ks)(hlen:Fs.length=ks.length)(hmm:∀ i (h:i<ks.length),(ks[i],Fs[i]'(by omega))∈fs)(hbg:∀ W o,B W o->BxN bg (Pt gb) 36 W o)(hbl:∀ W o,B W o->BxN bl (.slice a ks.length c) 22 W o) :
 SizC K n room w0 mb ws0 C o0 wb B Fs fs nx 64 #[Pt bg,Pt bl]:=by
 refine⟨NJ,fun B' g2 g1 zs W h=>?_⟩;have HD:=Hd (h.below g2 (An W 1));have g0:Hq (∀ W,FxO K n room w0 mb ws0 C o0 wb B' (fun l=>l.map Int.ofNat=zs) fs nx W->W.cell? (Av bg)=some (Pt gb)/\W.cell? (Av gb)=some (Pt mb)/\W.cell? (Av bl)=some (.slice a ks.length c)):=Hd fun W h=>by
  obtain⟨o,m,V,_,_,_,h4⟩:=h;have hh:=g1 _ _ h4;obtain⟨q0,_,_⟩:=cells2 (hg _ _ hh).1.1;exact⟨(hbg _ _ hh).cell,q0,(hbl _ _ hh).cell⟩
 have HS:=Hd (FxO.size (c:=c) g2 HD.o (fun W o hh=>hl W o (g1 _ _ hh)) hlen hmm);obtain⟨N,hN⟩:=Ex (szO n Fs zs);rw[<- hN] at HS ⊢;obtain⟨S,hS⟩:=Ex (FxO K n room w0 mb ws0 C o0 wb B' (fun l=>l.map Int.ofNat=zs) fs nx:Wd->Prop);rw[<- hS] at HS HD g0 ⊢;obtain⟨c1,c2,c3⟩:=g0.o _ HD.o;obtain⟨L,hL⟩:=Ex ks.length;rw[<- hL] at HS g0 c3;clear h hg hl hlen hmm hbg hbl g2 g1 hN hS hL
 go_enter func64,ntmps64
 go_upto_region 1 with fail;refine AD (fun w':Wd=>w'.cell? (Av bg)=some (Pt gb)/\w'.cell? (Av gb)=some (Pt mb)/\w'.cell? (Av bl)=some (.slice a L c)) false 10 [(0,false),(1,false),(2,false),(3,false),(4,false),(5,true),(6,false),(7,false),(8,false),(9,false)] (by kernel_rfl) (by kernel_rfl) ⟨c1,c2,c3⟩ ?_;simp only[planned,AC]
 iterate 5
  refine As rfl ?_;apply Exists.intro;refine⟨fun w' hw=>?_,?_⟩
  . obtain⟨h1,h2,h3⟩:=hw;go_simp;rfl
  simp only[Ac]
 refine Q6 (R:=fun v w'=>v=.tuple #[Iv (N:Nat),Iv 0]/\S w') (by go_simp) (by go_simp) (HS.o.mono fun x w' ⟨q1,q2⟩=>⟨_,q1,g0.o w' q2,rfl,q2⟩) ?_;rintro v w2-⟨rfl,g3⟩;have g4:=Hd g3;simp only[Ac]
 iterate 4
  refine As rfl ?_;apply Exists.intro;refine⟨fun w' hw=>?_,?_⟩
  . obtain⟨h1,h2,h3⟩:=hw;go_simp;rfl
  simp only[Ac]
 refine Bs ?_;clear c1 c2 c3 g3 HS g0 HD;go_wp2_with fail;refine VS (Xs rfl _ _ _) rfl ?_;exact⟨rfl,g4.o⟩
theorem Vf (hB:AR B)(hg:∀ W o,B W o->GrB mb gb lv gs W o)(hw:Cn gs n)(hgl:gs.length<=3000)(hn:nx<=549755813888)(hr:3*(fs.length*2^n)<=room){a:Option Addr}(hl:∀ W o,B W o->ArgI w0 W o a ks)(hlen:Fs.length=ks.length)(hmm:∀ i (h:i<ks.length),(ks[i],Fs[i]'(by omega))∈fs)(hsz:Fs.length*2^n<=1000000000)(grow:Int)
 (h:FxO K n room w0 mb ws0 C o0 wb B (fun l=>l.map Int.ofNat=zs) fs nx W) :
 Cl 21 #[Pt gb,Iv grow,.slice a ks.length c] W fun e w'=>∃ p0 p1:List Nat,Placed gs (levZ zs) p0/\p1.Perm p0/\szO n Fs (gather gs p1)<=szO n Fs (gather gs p0)/\e=.returned (.tuple #[Iv (szO n Fs (gather gs p1):Nat),Iv 0])/\FxO K n room w0 mb ws0 C o0 wb B (fun l=>l.map Int.ofNat=gather gs p1) fs nx w':=by
 obtain⟨D,hD⟩:=Ex W.heap.size;obtain⟨B1,g1⟩:=Ex (fun W' o'=>(B W' o'/\BxN D (Pt gb) 36 W' o')/\BxN (D+1) (.slice a ks.length c) 22 W' o':Wd->Own->Prop)
 have g8:AR B1:=by rw[g1];exact(hB.and BxN.keep).and BxN.keep
 obtain⟨w1,g5⟩:=Ex ((W.alloc (.cells #[Pt gb] 36)).alloc (.cells #[.slice a ks.length c] 22));have t1:FxO K n room w0 mb ws0 C o0 wb B1 (fun l=>l.map Int.ofNat=zs) fs nx w1:=by
  have:=FxO.box (hB.and BxN.keep) (FxO.box hB h (Pt gb) 36) (.slice a ks.length c) 22;rw[VO,<- hD] at this;rw[g5,g1];exact this
 have g2:∀ W o,B1 W o->GrB mb gb lv gs W o:=fun W o hh=>by rw[g1] at hh;exact hg _ _ hh.1.1
 have g7:∀ W o,B1 W o->ArgI w0 W o a ks:=fun W o hh=>by rw[g1] at hh;exact hl _ _ hh.1.1
 have g9:SizC K n room w0 mb ws0 C o0 wb B1 Fs fs nx 64 #[Pt D,Pt (D+1)]:=Vd g2 g7 hlen hmm (fun W o hh=>by rw[g1] at hh;exact hh.1.2) (fun W o hh=>by rw[g1] at hh;exact hh.2);obtain⟨lg,cg,gp⟩:∃ lg cg,lv=.slice lg gs.length cg:=by
  obtain⟨o,m,V,_,_,_,h4⟩:=h;obtain⟨lg,cg,e,_⟩:=(hg _ _ h4).2.is.slice;exact⟨lg,cg,e⟩
 subst gp;have ge:Hq (∀ i,(hi:i<ks.length)->Cl 20 #[Pt mb,Iv (at0 ks i)] w1 (Sm (.bool true) w1)):=Hd fun i hi=>t1.ask fun o m V hs _=>by
  rw[Az hi];exact IX hs (hmm i hi)
 have gf:Hq (∀ i,i<ks.length->∃ b off,a=some (Aw b off)/\w1.cell? (Aw b (off+i))=some (Iv (at0 ks i))):=Hd fun i hi=>by
  obtain⟨o,m,V,_,_,_,h4⟩:=t1;exact(g7 _ _ h4).z.cells i hi
 have gr:ks.length<=9223372036854775807:=by
  obtain⟨o,m,V,_,_,_,h4⟩:=t1;exact(g7 _ _ h4).z.len
 obtain⟨sz,g3⟩:=Ex (fun p=>szO n Fs (gather gs p):List Nat->Nat)
 obtain⟨S,hS⟩:=Ex (fun p W=>FxO K n room w0 mb ws0 C o0 wb B1 (fun l=>l.map Int.ofNat=gather gs p) fs nx W:List Nat->Wd->Prop)
 have gl:Hq (∀ p W,S p W->W.cell? (Av D)=some (Pt gb)/\W.cell? (Aw gb 1)=some (.slice lg gs.length cg)):=Hd fun p W h=>by
  rw[hS] at h;obtain⟨o,m,V,_,_,_,h4⟩:=h;obtain⟨_,q1,_⟩:=cells2 (g2 _ _ h4).1.1;rw[g1] at h4;exact⟨h4.1.2.cell,q1⟩
 have gk:Hq (Cl 56 #[Pt gb] w1 fun x w'=>x=.returned (Iv 0)/\∃ p0,Placed gs (levZ zs) p0/\S p0 w'):=Hd (by
  refine(MZ g8 t1 g2 hw hgl hn hr).mono ?_;rintro x w' ⟨rfl,l,p0,_,hP,_,hp,hf⟩;rw[hP] at hp;exact⟨rfl,p0,hp,by rw[hS];exact hf⟩)
 have gm:Hq (∀ p0 p W i g,Placed gs (levZ zs) p0->p.Perm p0->g<=1000->S p W->Cl 66 #[Pt gb,Iv (i:Nat),Iv (g:Nat),.func (.func 64) #[] #[Pt D,Pt (D+1)]] W fun e w'=>e=.returned (Iv 0)/\∃ p',p'.Perm p0/\sz p'<=sz p/\S p' w'):=Hd fun p0 p W i g g6 hp gt hs=>by
  rw[hS] at hs ⊢;refine(Vb g8 g2 hw hgl hn hr hsz g9 (J1 hw g6 hp) i g gt hs).mono ?_;rintro e w' ⟨rfl,p',h1,h2,h3⟩;exact⟨rfl,p',h1.trans hp,by rw[g3];exact h2,h3⟩
 have gv:Hq (∀ p W,S p W->Cl 64 #[Pt D,Pt (D+1)] W fun e w'=>e=.returned (.tuple #[Iv (sz p:Nat),Iv 0])/\S p w'):=Hd fun p W hs=>by
  rw[hS] at hs ⊢;rw[g3]
  exact g9.ask B1 g8 (fun _ _ h=>h) _ W hs
 obtain⟨Q,hQ⟩:=Ex (fun e w'=>∃ p0 p1:List Nat,Placed gs (levZ zs) p0/\p1.Perm p0/\szO n Fs (gather gs p1)<=szO n Fs (gather gs p0)/\e=.returned (.tuple #[Iv (szO n Fs (gather gs p1):Nat),Iv 0])/\FxO K n room w0 mb ws0 C o0 wb B (fun l=>l.map Int.ofNat=gather gs p1) fs nx w':Ending->Wd->Prop)
 have go:Hq (∀ p0 p1 w',Placed gs (levZ zs) p0->p1.Perm p0->sz p1<=sz p0->S p1 w'->Q (.returned (.tuple #[Iv (sz p1:Nat),Iv 0])) w'):=Hd fun p0 p1 w' h1 h2 h3 h4=>by
  rw[hS] at h4;rw[g3] at h3 ⊢;rw[hQ]
  exact⟨p0,p1,h1,h2,h3,rfl,h4.withB fun o m V _ hh=>by rw[g1] at hh;exact hh.1.1⟩
 obtain⟨c0,c1,g0⟩:w1.cell? (Av D)=some (Pt gb)/\w1.cell? (Av (D+1))=some (.slice a ks.length c)/\w1.cell? (Av gb)=some (Pt mb):=by
  obtain⟨o,m,V,_,_,_,h4⟩:=t1;obtain⟨q0,_,_⟩:=cells2 (g2 _ _ h4).1.1;rw[g1] at h4;exact⟨h4.1.2.cell,h4.2.cell,q0⟩
 obtain⟨g,gh⟩:∃ g:Nat,min (max grow 0) 1000=((g:Nat):Int):=⟨(min (max grow 0) 1000).toNat,by omega⟩;have gu:g<=1000:=by omega
 have gx:=Hd gh;obtain⟨N,hN⟩:=Ex ks.length;rw[<- hQ];rw[<- hN] at ge gf gr c1 ⊢;have HW1:=Hd g5.symm;rw[<- hN] at HW1;obtain⟨G,hG⟩:=Ex gs.length;rw[<- hG] at gl hgl;have egb:=Vc;have egs:=NJ;clear h hN g5 t1 hl hmm hlen hB hg hw hn hr hsz g8 g2 g7 g9 g1 hS g3 hQ hG gh
 go_enter func21,ntmps21
 go_upto_region 1 with fail;rw[<- hD,HW1.o];clear HW1 hD;go_wp2_with fail
 go_loopw [6,7,9,19] (fun s6 s7 _ s19 wr=>∃ i:Nat,i<=N/\s6=Iv 0/\s7=Iv 0/\s19=Iv (i:Nat)/\wr=w1) (fun _ _ _ s19 _=>N-(intOf s19).toNat)
 case atStart=>exact⟨0,Vu _,rfl,rfl,rfl,rfl⟩
 case round =>
  obtain⟨i,hi,rfl,rfl,rfl,rfl⟩:=hrel
  by_cases gc:i<N
  ·obtain⟨b,off,rfl,ci⟩:=gf.o i gc;have HI:=Hd (ge.o i gc);obtain⟨k1,gd⟩:=Ex (at0 ks i);rw[<- gd] at ci HI;have gA:(i:Int)<(N:Int):=by omega
   clear gd;go_wp2_with fail;refine HI.o.mono ?_;rintro x w2 ⟨rfl,rfl⟩;clear HI;go_wp2_with fail;go_roundw
   case rel=>exact⟨i+1,gc,rfl,rfl,by go_num,(by first|rfl|trivial)⟩
   case measure=>simp[intOf];omega
  ·obtain rfl:i=N:=by omega
   have gz:¬ (i:Int)<(i:Int):=by omega
   clear ge gf;go_wp2_with fail;refine gk.o.mono ?_;rintro y w2 ⟨rfl,p0,g6,ga⟩;have gj:=Hd g6;have gi:=Hd ga;obtain⟨d0,d1⟩:=gl.o _ _ ga;clear g6 ga gk c0 c1 g0;go_upto_region 13 with fail;rw[gx.o];go_wp2_with fail
   go_loopw [6,7,13,14,47] (fun s6 s7 _ _ s47 wr=>∃ (k:Nat) (p:List Nat),k<=G/\s6=Iv 0/\s7=Iv 0/\s47=Iv (k:Nat)/\Hq (p.Perm p0/\sz p<=sz p0)/\Hq (S p wr)) (fun _ _ _ _ s47 _=>G-(intOf s47).toNat)
   case atStart=>exact⟨0,p0,Vu _,rfl,rfl,rfl,Hd ⟨List.Perm.refl _,Vo _⟩,gi⟩
   case round =>
    obtain⟨k,p,hk,rfl,rfl,rfl,g4,HS⟩:=hrel;clear gi
    by_cases gy:k<G
    ·have gq:(k:Int)<(G:Int):=by omega
     have HC:=Hd (gm.o p0 p wr k g gj.o g4.o.1 gu HS.o);clear HS;go_wp2_with fail;refine HC.o.mono ?_;rintro y w3 ⟨rfl,p',h1,h2,h3⟩;have gn:Hq (p'.Perm p0/\sz p'<=sz p0):=Hd ⟨h1,Vx h2 g4.o.2⟩;have gw:=Hd h3;clear h1 h2 h3 HC g4;go_wp2_with fail;go_roundw
     case rel=>exact⟨k+1,p',by omega,rfl,rfl,by go_num,gn,gw⟩
     case measure=>simp[intOf];omega
    ·obtain rfl:k=G:=by omega
     have gq:¬ (k:Int)<(k:Int):=by omega
     have HC:=Hd (gv.o p wr HS.o);clear HS gm;go_wp2_with fail;refine HC.o.mono ?_;rintro y w3 ⟨rfl,gg⟩;have HF:=Hd (go.o p0 p w3 gj.o g4.o.1 g4.o.2 gg);clear gg HC;go_wp2_with fail
     first
      | exact HF.o
      | (refine VS (Xs rfl _ _ _) rfl ?_;exact HF.o)
theorem Vg (hB:AR B)(hg:∀ W o,B W o->GrB mb gb lv gs W o){a:Option Addr}(hl:∀ W o,B W o->ArgI w0 W o a ks)(hno:∃ k∈ks,¬ known fs k)(grow:Int)
 (h:FxO K n room w0 mb ws0 C o0 wb B P fs nx W) :
 Cl 21 #[Pt gb,Iv grow,.slice a ks.length c] W fun e w'=>e=.returned (.tuple #[Iv 0,Iv 8])/\FxO K n room w0 mb ws0 C o0 wb B P fs nx w':=by
 obtain⟨D,hD⟩:=Ex W.heap.size;obtain⟨B1,g1⟩:=Ex (fun W' o'=>(B W' o'/\BxN D (Pt gb) 36 W' o')/\BxN (D+1) (.slice a ks.length c) 22 W' o':Wd->Own->Prop)
 obtain⟨w1,g2⟩:=Ex ((W.alloc (.cells #[Pt gb] 36)).alloc (.cells #[.slice a ks.length c] 22));have t1:FxO K n room w0 mb ws0 C o0 wb B1 P fs nx w1:=by
  have:=FxO.box (hB.and BxN.keep) (FxO.box hB h (Pt gb) 36) (.slice a ks.length c) 22;rw[VO,<- hD] at this;rw[g2,g1];exact this
 have ga:Hq (∀ k,∃ b:Bool,(b=true↔known fs k)/\Cl 20 #[Pt mb,Iv k] w1 (Sm (.bool b) w1)):=Hd fun k=>by
  obtain⟨b,hb⟩:=Gz (known fs k);exact⟨b,hb,t1.ask fun o m V hs _=>NI hs k hb⟩
 have g5:Hq (∀ i,i<ks.length->∃ b off,a=some (Aw b off)/\w1.cell? (Aw b (off+i))=some (Iv (at0 ks i))):=Hd fun i hi=>by
  obtain⟨o,m,V,_,_,_,h4⟩:=t1;rw[g1] at h4;exact(hl _ _ h4.1.1).z.cells i hi
 have gd:ks.length<=9223372036854775807:=by
  obtain⟨o,m,V,_,_,_,h4⟩:=t1;rw[g1] at h4;exact(hl _ _ h4.1.1).z.len
 have HF:Hq (FxO K n room w0 mb ws0 C o0 wb B P fs nx w1):=Hd (t1.withB fun o m V _ hh=>by rw[g1] at hh;exact hh.1.1);obtain⟨c0,c1,g0⟩:w1.cell? (Av D)=some (Pt gb)/\w1.cell? (Av (D+1))=some (.slice a ks.length c)/\w1.cell? (Av gb)=some (Pt mb):=by
  obtain⟨o,m,V,_,_,_,h4⟩:=t1;rw[g1] at h4;obtain⟨q0,_,_⟩:=cells2 (hg _ _ h4.1.1).1.1;exact⟨h4.1.2.cell,h4.2.cell,q0⟩
 have g9:Hq (∃ i,i<ks.length/\¬ known fs (at0 ks i)):=Hd (by
  obtain⟨k,hk,hn⟩:=hno;obtain⟨i,hi,rfl⟩:=Wj hk;exact⟨i,hi,by rw[Az hi];exact hn⟩)
 obtain⟨N,hN⟩:=Ex ks.length;rw[<- hN] at g5 gd c1 g9 ⊢;have HW1:=Hd g2.symm;rw[<- hN] at HW1;clear h hN g2 t1 hl hB hg g1 hno
 go_enter func21,ntmps21
 go_upto_region 1 with fail;rw[<- hD,HW1.o];clear HW1 hD;go_wp2_with fail
 go_loopw [6,7,9,19] (fun s6 s7 _ s19 wr=>∃ i:Nat,i<=N/\s6=Iv 0/\s7=Iv 0/\s19=Iv (i:Nat)/\Hq (∀ j,j<i->known fs (at0 ks j))/\wr=w1) (fun _ _ _ s19 _=>N-(intOf s19).toNat)
 case atStart=>exact⟨0,Vu _,rfl,rfl,rfl,Hd fun j hj=>by omega,rfl⟩
 case round =>
  obtain⟨i,hi,rfl,rfl,rfl,HJ,rfl⟩:=hrel;have g6:i<N:=by
   obtain⟨q,hq,gc⟩:=g9.o;rcases VB i N with h|h
   . exact h
   . exact absurd (HJ.o q (by omega)) gc
  obtain⟨b,off,rfl,ci⟩:=g5.o i g6;obtain⟨kb,g7,g8⟩:=ga.o (at0 ks i);have HI:=Hd g8;have g4:Hq (kb=true->∀ j,j<i+1->known fs (at0 ks j)):=Hd fun e j hj=>by
   rcases VB j i with h|h
   . exact HJ.o j h
   ·obtain rfl:j=i:=by omega
    exact g7.1 e
  obtain⟨k1,g3⟩:=Ex (at0 ks i);rw[<- g3] at ci HI;have gf:(i:Int)<(N:Int):=by omega
  clear g3 g7 g8 ga HJ g5;cases kb with
  | true =>
    have ge:=Hd (g4.o rfl);clear g4;go_wp2_with fail;refine HI.o.mono ?_;rintro x w2 ⟨rfl,rfl⟩;clear HI;go_wp2_with fail;go_roundw
    case rel=>exact⟨i+1,g6,rfl,rfl,by go_num,ge,(by first|rfl|trivial)⟩
    case measure=>simp[intOf];omega
  | false =>
    clear g4;go_wp2_with fail;refine HI.o.mono ?_;rintro x w2 ⟨rfl,rfl⟩;clear HI;go_wp2_with fail
    first
     | exact⟨rfl,HF.o⟩
     | (refine VS (Xs rfl _ _ _) rfl ?_;exact⟨rfl,HF.o⟩)
end
open Classical in
structure TabT (n:Nat)(W:Wd)(x:Value)(F:BF):Prop where
 is:BQ W x (tabB n F)
 ty:∀ k,x.ownBlock=some k->k<W.heap.size/\∃ cur,W.heap[k]?=some (.cells cur 4 (0,0))
structure RowT (n:Nat)(W:Wd)(am:Option Addr)(Fs:List BF):Prop where
 len:Fs.length<=1000
 cells:∀ i (h:i<Fs.length),∃ b off v,am=some (Aw b off)/\W.cell? (Aw b (off+i))=some v/\TabT n W v Fs[i]
end Go.Proofs.YtkidaindpahefaaGreat
