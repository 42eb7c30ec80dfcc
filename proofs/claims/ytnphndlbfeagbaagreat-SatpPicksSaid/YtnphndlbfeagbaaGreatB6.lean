/- Several texts in one file: contracts of the program's functions and what follows from them. -/
import Derived.Test.YtnphndlbfeagbaaGreatB5
import Derived.Deep.CutBlock
set_option linter.all false
set_option maxRecDepth 100000
set_option maxHeartbeats 8000000
namespace Go.Proofs.YtnphndlbfeagbaaGreat
open Go.Proofs.Tryz
open Go.RowKit
variable {C:Nat->Prop}{F G:BF}{Fs:List BF}{K:Law}{Od:List Nat->Prop}{P:Program}{Q:Exit->Act->Wd->Prop}{S:Wd->Prop}{ST T:TypeId}{V V':Nat->BF}{W W' w w' w'' w0 w1:Wd}{a:Act}{args lop:Array Value}{b bf bl c e f g gop i j k mb n nk off q r room x xb:Nat}{bs:List Bool}{d:Af}{fs fs' hs:List (Int×BF)}{kf nx nx' op:Int}{ks zs:List Int}{last:Bool}{m m':ManD}{o':Own}{ops:Array Oper}{rest:List Oper}{v v' vl vx z:Value}{ws ws0:List Ev}{xs:List Value}
def TC (a:Option Addr)(c:Nat)(zs:List Int)(n:Int)(w:Wd)(H:Aj w a zs)(I:(zs.length:Int)≠n):
 Cl 32 #[.slice a zs.length c,Iv n] w (Sm (.bool false) w):=by
 have hl:=H.len;have g0:(((zs.length:Nat):Int) == n)=false:=by simpa using I
 clear H
 go_enter func32,ntmps32
 go_wp2;go_ret;exact⟨rfl,rfl⟩
def TD (a:Option Addr)(c:Nat)(zs:List Int)(n:Int)(w:Wd)(H:Aj w a zs)(I:n<=1000):
 Cl 32 #[.slice a zs.length c,Iv n] w (Sm (.bool (BW zs n)) w):=by
 by_cases h:(zs.length:Int)=n
 . exact TB a c zs n w H (by omega)
 ·have:BW zs n=false:=by unfold BW;simp[h]
  rw[this];exact TC a c zs n w H h
def A6.parts {e:ExT}{O I H:Value}(h:A6 w e (.agg #[O,I,H])):∃op v a n c,O=Iv op/\I=Iv v/\H=.slice a n c:=by
 cases e with
 | nil=>unfold A6 at h;exact h.elim
 | mk op v n kid=>
   unfold A6 at h;obtain⟨a,c,hx,_⟩:=h;cases hx;exact⟨_,_,_,_,_,rfl,rfl,rfl⟩
structure FH (w:Wd)(a:Option Addr)(l:List ExT):Prop where
 len:l.length<=9223372036854775807
 cells:∀k,∀hk:k<l.length,∃b off x0 x1 x2,a=some (Aw b off)/\w.cell? (Aw b (off+k*3))=some x0/\w.cell? (Aw b (off+k*3+1))=some x1/\w.cell? (Aw b (off+k*3+2))=some x2/\A6 w l[k] (.agg #[x0,x1,x2])
def FH.below {w w':Wd}{a:Option Addr}{l:List ExT}(h:FH w a l)(hb:Bw w w'):FH w' a l:=
 ⟨h.len,λk hk=>by
  obtain⟨b,off,O,I,H,e,U,c1,c2,hx⟩:=h.cells k hk;exact⟨b,off,O,I,H,e,(Cq hb U),(Cq hb c1),(Cq hb c2),hx.below hb⟩⟩
structure AskD where
 vars:Int
 order:List Int
 es:List ExT
 plan:List Ev
structure AskAt (w:Wd)(q:AskD)(ao ae ap:Option Addr):Prop where
 vars:okI q.vars
 order:Aj w ao q.order
 es:FH w ae q.es
 plan:EvsAt w ap q.plan
def AskAt.below {w w':Wd}{q:AskD}{I O H:Option Addr}(h:AskAt w q I O H)(hb:Bw w w'):AskAt w' q I O H:=⟨h.vars,h.order.below hb,h.es.below hb,h.plan.below hb⟩
structure Dl (q:AskD):Prop where
 lo:1<=q.vars
 hi:q.vars<=6
 es:q.es.length<=5
 plan:q.plan.length<=6
 order:q.order.length>0->BW q.order q.vars=true
 planOk:Bj q.vars 0 q.plan=0
 after:∀ev∈q.plan,ev.after<=300
 expr:∀e∈q.es,e.size<=40/\okT e 1/\∀v∈AP e,v<q.vars
def askV (q:AskD)(X Y U:Option Addr)(I O H:Nat):Value:=.agg #[Iv q.vars,.slice X q.order.length I,.slice Y q.es.length O,.slice U q.plan.length H]
def JD (q:AskD)(g B f:Option Addr)(n L m:Nat)(w:Wd)(h:AskAt w q g B f):
 Cl 7 #[askV q g B f n L m] w λy w'=>∃b,y=.returned (.bool b)/\(b=true->Dl q)/\Bw w w':=by
 obtain⟨vars,order,es,plan⟩:=q;obtain⟨X,E,H,D⟩:=h;dsimp only [askV]at X E H D⊢;unfold okI at X;have hc:=E.len;have hg:=H.len;have ha:=D.len;have HO:=Hd E;have HE:=Hd H;have HP:=Hd D;obtain⟨w1,A⟩:=Ex (w.alloc (.cells #[Iv vars,.slice g order.length n,.slice B es.length L,.slice f plan.length m] 26));have HW1:Hq (_=w1):=Hd A.symm;have g9:Hq (Bw w w1):=by rw[A];exact Hd (Ag _ _)
 have g0:w1.heap[w.heap.size]?=some (.cells #[Iv vars,.slice g order.length n,.slice B es.length L,.slice f plan.length m] 26 (0,0)):=by rw[A];exact Xv _ _
 have d0:w1.cell? (Av w.heap.size)=some (Iv vars):=by rw[Xw _ _ 0 _ _ _ g0];rfl
 have d1:w1.cell? (Aw w.heap.size 1)=some (.slice g order.length n):=by rw[Xw _ _ 1 _ _ _ g0];rfl
 have d2:w1.cell? (Aw w.heap.size 2)=some (.slice B es.length L):=by rw[Xw _ _ 2 _ _ _ g0];rfl
 have d3:w1.cell? (Aw w.heap.size 3)=some (.slice f plan.length m):=by rw[Xw _ _ 3 _ _ _ g0];rfl
 have hs1:w1.heap.size=w.heap.size+1:=by rw[A];simp
 have l:Hq (vars<=6->Cl 32 #[.slice g order.length n,Iv vars] w1 (Sm (.bool (BW order vars)) w1)):=Hd λhh=>TD g n order vars w1 (HO.o.below g9.o) (by omega)
 have ge:Hq (0<=vars->vars<=6->Cl 33 #[Iv vars,Iv 0,.slice f plan.length m] w1 (Sm (Iv (Bj vars 0 plan)) w1)):=Hd λh1 h2=>T9 vars 0 ⟨h1,by omega⟩ ⟨by omega,by omega⟩ f m plan w1 (HP.o.below g9.o)
 obtain⟨P,F⟩:=Ex (λy w'=>∃b,y=.returned (.bool b)/\(b=true->Dl ⟨vars,order,es,plan⟩)/\Bw w w':Ending->Wd->Prop)
 have gk:Hq (∀W,Bw w1 W->P (.returned (.bool false)) W):=by rw[F];exact Hd λW hb=>⟨false,rfl,by simp,g9.o.trans (hb.mono g9.o.size)⟩
 have gL:Hq (Dl ⟨vars,order,es,plan⟩->∀W,Bw w1 W->P (.returned (.bool true)) W):=by rw[F];exact Hd λhq W hb=>⟨true,rfl,λ_=>hq,g9.o.trans (hb.mono g9.o.size)⟩
 rw[<-F];clear E H D A g0 F
 go_enter func7,ntmps7
 go_upto_region 1 with fail;rw[HW1.o]
 go_cut [50] (λT wx=>∃U:Bool,T=.bool U/\wx=w1/\Hq (U=false->1<=vars/\vars<=6/\es.length<=5/\plan.length<=6/\(order.length>0->BW order vars=true)/\Bj vars 0 plan=0))
 case first=>
  by_cases h1:vars<1
  ·go_wp2_with fail;go_meet
   case rel=>exact⟨true,rfl,rfl,Hd (by simp)⟩
  by_cases h2:vars>6
  ·go_wp2_with fail;go_meet
   case rel=>exact⟨true,rfl,rfl,Hd (by simp)⟩
  by_cases h3:(es.length:Int)>5
  ·go_wp2_with fail;go_meet
   case rel=>exact⟨true,rfl,rfl,Hd (by simp)⟩
  by_cases h4:(plan.length:Int)>6
  ·go_wp2_with fail;go_meet
   case rel=>exact⟨true,rfl,rfl,Hd (by simp)⟩
  have ge:=Hd (ge.o (by omega) (by omega));have l:=Hd (l.o (by omega));obtain⟨C,gp⟩:=Ex (Bj vars 0 plan);rw[<-gp]at ge;have gH:=Hd gp;clear gp
  by_cases h5:(order.length:Int)>0
  ·obtain⟨rb,go⟩:=Ex (BW order vars);rw[<-go]at l;have gT:=Hd go;clear go;cases rb with
   | false=>
     go_wp2_with fail;refine l.o.mono ?_;rintro y w' ⟨rfl,rfl⟩;go_wp2_with fail;go_meet
     case rel=>exact⟨true,rfl,rfl,Hd (by simp)⟩
   | true=>
     go_wp2_with fail;refine l.o.mono ?_;rintro y w' ⟨rfl,rfl⟩;go_wp2_with fail;refine ge.o.mono ?_;rintro y w' ⟨rfl,rfl⟩
     by_cases O:C=0
     ·have gf:Hq (1<=vars/\vars<=6/\es.length<=5/\plan.length<=6/\(order.length>0->BW order vars=true)/\Bj vars 0 plan=0):=Hd ⟨by omega,by omega,by omega,by omega,λ_=>gT.o.symm,by rw[<-gH.o,O]⟩;subst O;go_wp2_with fail;go_meet
      case rel=>exact⟨false,rfl,rfl,Hd λ_=>gf.o⟩
     ·have gR:(C != 0)=true:=by simpa using O
      clear O;go_wp2_with fail;go_meet
      case rel=>exact⟨true,rfl,rfl,Hd (by simp)⟩
  ·go_wp2_with fail;refine ge.o.mono ?_;rintro y w' ⟨rfl,rfl⟩
   by_cases O:C=0
   ·have gf:Hq (1<=vars/\vars<=6/\es.length<=5/\plan.length<=6/\(order.length>0->BW order vars=true)/\Bj vars 0 plan=0):=Hd ⟨by omega,by omega,by omega,by omega,λ_=>by omega,by rw[<-gH.o,O]⟩;subst O;go_wp2_with fail;go_meet
    case rel=>exact⟨false,rfl,rfl,Hd λ_=>gf.o⟩
   ·have gR:(C != 0)=true:=by simpa using O
    clear O;go_wp2_with fail;go_meet
    case rel=>exact⟨true,rfl,rfl,Hd (by simp)⟩
 case rest=>
  obtain⟨U,rfl,rfl,gA⟩:=hcut;clear l ge;cases U with
  | true=>
    go_wp2_with fail;exact gk.o _ (X7 _ _)
  | false=>
    obtain⟨g1,g2,g3,g4,g5,g6⟩:=gA.o rfl;have gY:=Hd g5;have gX:=Hd g6;clear g5 g6 gA;go_upto_region 3 with fail;go_wp2
    go_loopw [4,54] (λs4 a wr=>∃k:Nat,k<=plan.length/\a=Iv k/\Bw wc wr/\Hq (∀ev∈plan.take k,ev.after<=300)) (λ_ a _=>plan.length-(intOf a).toNat)
    case atStart=>exact⟨0,X0 _,rfl,X7 _ _,Hd λev H=>by simp at H⟩
    case round=>
     obtain⟨k,hk,rfl,g7,HA⟩:=hrel
     by_cases x:k<plan.length
     ·obtain⟨b,off,rfl,M,c1,c2⟩:=((HP.o.below g9.o).below g7).cells k x;have gO:(k:Int)<plan.length:=by omega
      have g8:=Hd g7;have s:Hq (∀ev∈plan.take (k+1),ev∈plan.take k\/ev=plan[k]):=Hd λev H=>by
       rw[XA x,XD,XB]at H;exact H
      obtain⟨ev,d⟩:=Ex (plan[k]);rw[<-d]at M c1 c2 s;obtain⟨af,ki,le⟩:=ev;dsimp only at M c1 c2;clear d g7
      by_cases hm:af>300
      . have I:=Hd (gk.o _ (g8.o.trans ((Ag wr (.cells #[Iv af,Iv ki,Iv le] 76)).mono g8.o.size)));go_wp2_with fail;exact I.o
      ·have I:=Hd (g8.o.trans ((Ag wr (.cells #[Iv af,Iv ki,Iv le] 76)).mono g8.o.size));have h0:Hq (∀ev∈plan.take (k+1),ev.after<=300):=Hd λev H=>by
        rcases s.o ev H with h|rfl
        . exact HA.o ev h
        . dsimp only;omega
       go_wp2;go_roundw
       case rel=>exact⟨k+1,by omega,by go_num,I.o,h0⟩
       case measure=>simp[intOf];omega
     ·have gZ:Hq (∀ev∈plan,ev.after<=300):=Hd λev d=>HA.o ev (by rw[XK (by omega)];exact d)
      have gO:¬ (k:Int)<plan.length:=by omega
      have d0':=Cq g7 d0;have d2':=Cq g7 d2;have g8:=Hd g7;obtain⟨wA,h9⟩:=Ex wr;clear g7;go_wp2
      go_loopw [6,8,65] (λs6 s8 Z wx=>∃k:Nat,k<=es.length/\Z=Iv k/\Bw wc wx/\Hq (∀e∈es.take k,e.size<=40/\okT e 1/\∀v∈AP e,v<vars)) (λ_ _ Z _=>es.length-(intOf Z).toNat)
      case atStart=>exact⟨0,X0 _,rfl,g8.o,Hd λev H=>by simp at H⟩
      case round=>
       rename Wd=>wy
       obtain⟨j,hj,rfl,t,HB⟩:=hrel
       by_cases x:j<es.length
       ·obtain⟨b,off,x0,x1,x2,rfl,M,c1,c2,hx⟩:=((HE.o.below g9.o).below t).cells j x;have gP:(j:Int)<es.length:=by omega
        have gJ:=Hd t;have s:Hq (∀e∈es.take (j+1),e∈es.take j\/e=es[j]):=Hd λe H=>by
         rw[XA x,XD,XB]at H;exact H
        have gu:=Cq t d0;obtain⟨e,d⟩:=Ex (es[j]);rw[<-d]at hx s;have HX:=Hd hx;obtain⟨zo,N,S,Q,R,rfl,rfl,rfl⟩:=hx.parts;clear d t hx;go_upto_region 12 with fail;obtain⟨p,K⟩:=Ex (wy.alloc (.cells #[Iv zo,Iv N,.slice S Q R] 78));have G:Bw wy p:=by rw[K];exact Ag _ _
        have g0:p.heap[wy.heap.size]?=some (.cells #[Iv zo,Iv N,.slice S Q R] 78 (0,0)):=by rw[K];exact Xv _ _
        have k0:p.cell? (Av wy.heap.size)=some (Iv zo):=by rw[Xw _ _ 0 _ _ _ g0];rfl
        have k1:p.cell? (Aw wy.heap.size 1)=some (Iv N):=by rw[Xw _ _ 1 _ _ _ g0];rfl
        have k2:p.cell? (Aw wy.heap.size 2)=some (.slice S Q R):=by rw[Xw _ _ 2 _ _ _ g0];rfl
        have kd:=Cq G gu;have gw:=Hd (HX.o.below G);have gI:=Hd (gJ.o.trans (G.mono gJ.o.size));rw[<-K];clear K G g0 M c1 c2 gu;go_wp2_with fail;refine(MQ e _ 40 _ (by omega) gw.o).mono ?_;rintro y wp ⟨⟨r,rfl,_,_,gC⟩,gc⟩;have gz:=Hd (gI.o.trans (gc.mono gI.o.size));have gx:=Hd (gw.o.below gc);have m0:=Cq gc k0;have m1:=Cq gc k1;have m2:=Cq gc k2;have md:=Cq gc kd;clear gc k0 k1 k2 kd
        by_cases hr:(r:Int)>40
        . have I:=Hd (gk.o _ gz.o);go_wp2_with fail;exact I.o
        have gB:e.size<=40:=by have:=gC (by omega);omega
        clear gC;go_wp2_with fail;refine(JB e _ _ (by omega) gx.o).mono ?_;rintro y wq ⟨err,rfl,gt,c⟩;have gy:=Hd (gz.o.trans (c.mono gz.o.size));have gE:=Hd (gx.o.below c);have n0:=Cq c m0;have n1:=Cq c m1;have n2:=Cq c m2;have nd:=Cq c md;have gV:=Hd gt;clear c m0 m1 m2 md gt
        by_cases J:err=0
        ·have gf:=Hd (gV.o.1 J);subst J;go_wp2_with fail;refine(T8 e _ _ (by omega) gE.o).mono ?_;rintro y ws ⟨u,os,rfl,gN,h7,gq,gv⟩;obtain⟨au,cu,rfl,gD,hd⟩:=gN;have gK:=Hd (gy.o.trans (gv.mono gy.o.size));have pd:=Cq gv nd;have gU:=Hd gD;have gM:=Hd (gq gf.o);clear gv n0 n1 n2 nd gD gq HX gw gx gE;go_wp2
         go_loopw [8,80] (λs8 Y wt=>∃i:Nat,i<=os.length/\Y=Iv i/\wt=ws/\Hq (∀v∈os.take i,v<vars)) (λ_ Y _=>os.length-(intOf Y).toNat)
         case atStart=>exact⟨0,X0 _,rfl,rfl,Hd λv X=>by simp at X⟩
         case round=>
          obtain⟨i,hi,rfl,rfl,gF⟩:=hrel
          by_cases gr:i<os.length
          ·obtain⟨b2,of2,rfl,cc⟩:=gU.o.cells i gr;have gQ:(i:Int)<os.length:=by omega
           have gG:=Hd (MV gr);obtain⟨z,hz⟩:=Ex (at0 os i);rw[<-hz]at cc gG;clear hz
           by_cases h8:z>=vars
           . have I:=Hd (gk.o _ gK.o);go_wp2_with fail;exact I.o
           ·have gS:Hq (∀v∈os.take (i+1),v<vars):=Hd λv X=>by
             rcases(gG.o v).1 X with h|rfl
             . exact gF.o v h
             . omega
            go_wp2;go_roundw
            case rel=>exact⟨i+1,by omega,by go_num,by simp,gS⟩
            case measure=>simp[intOf];omega
          ·have gQ:¬ (i:Int)<os.length:=by omega
           have HB2:Hq (∀e∈es.take (j+1),e.size<=40/\okT e 1/\∀v∈AP e,v<vars):=Hd λe' V=>by
            rcases s.o e' V with h|rfl
            . exact HB.o e' h
            . exact⟨gB,gf.o,λv X=>gF.o v (by rw[XK (by omega)];exact gM.o v X)⟩
           go_wp2;go_roundw
           case rel=>exact⟨j+1,by omega,by go_num,gK.o,HB2⟩
           case measure=>simp[intOf];omega
        ·have hf:(err != 0)=true:=by simpa using J
         have I:=Hd (gk.o _ gy.o);clear J;go_wp2_with fail;exact I.o
       ·have gP:¬ (j:Int)<es.length:=by omega
        have I:=Hd (gL.o ⟨g1,g2,g3,g4,gY.o,gX.o,gZ.o,λe H=>HB.o e (by rw[XK (by omega)];exact H)⟩ _ t);go_wp2_with fail;exact I.o
def cntT:Nat->(Nat->Bool)->Nat
 | 0,_=>0
 | k+1,f=>cntT k f+(if f k then 1 else 0)
def EZ (k:Nat)(f:Nat->Bool):cntT (k+1) f=cntT k f+(if f k then 1 else 0):=rfl
def MW (f:Nat->Bool):∀k,cntT k f<=k
 | 0=>Xs _
 | k+1=>by
   have:=MW f k;rw[EZ];split<;>omega
def opB (op:Int)(n:Nat)(f:Nat->Bool):Bool:=
 if op=1 then true else if op=4 then decide (cntT n f=0)else if op=5 then decide (cntT n f=n)else if op=6 then decide (0<cntT n f)else if op=7 then decide (cntT n f%2=1)
 else if op=8 then(!f 0||f 1)else if op=9 then decide (cntT n f≠1)else if op=10 then iteB (f 0) (f 1) (f 2)else false
def fnT:ExT->BF
 | .nil=>λ_=>false
 | .mk op v n kid=>fun ρ=>if op=3 then ρ v.toNat else opB op n λi=>fnT (kid i) ρ
def notF (F:BF):BF:=fun ρ => !F ρ
def DV (op:Int)(F G:BF):BF:=
 if op=5 then Ba F G (λ_=>false)else if op=6 then Ba F (λ_=>true) G else if op=8 then Ba F G (λ_=>true)else if op=7 then Ba F (notF G) G else Ba F G (notF G)
def accT (op:Int)(kid:Nat->ExT):Nat->BF
 | 0=>λ_=>decide (op=5)
 | k+1=>DV op (accT op kid k) (fnT (kid k))
def MX (kid:Nat->ExT)(ρ:Nat->Bool):∀k,accT 5 kid k ρ=decide (cntT k (λi=>fnT (kid i) ρ)=k)
 | 0=>rfl
 | k+1=>by
   have h1:accT 5 kid (k+1) ρ=iteB (accT 5 kid k ρ) (fnT (kid k) ρ) false:=rfl;have h2:=MW (λi=>fnT (kid i) ρ) k;rw[h1,MX kid ρ k,EZ];unfold iteB;cases H:fnT (kid k) ρ
   ·have:(cntT k λi=>fnT (kid i) ρ)+0≠k+1:=by omega
    simp only[ZF,if_false,XW this];split<;>rfl
   . simp
def MY (kid:Nat->ExT)(ρ:Nat->Bool):∀k,accT 6 kid k ρ=decide (0<cntT k (λi=>fnT (kid i) ρ))
 | 0=>rfl
 | k+1=>by
   have h1:accT 6 kid (k+1) ρ=iteB (accT 6 kid k ρ) true (fnT (kid k) ρ):=rfl;rw[h1,MY kid ρ k,EZ];unfold iteB;cases H:fnT (kid k) ρ<;>simp
def MZ (kid:Nat->ExT)(ρ:Nat->Bool):∀k,accT 7 kid k ρ=decide (cntT k (λi=>fnT (kid i) ρ)%2=1)
 | 0=>rfl
 | k+1=>by
   have h1:accT 7 kid (k+1) ρ=iteB (accT 7 kid k ρ) (!(fnT (kid k) ρ)) (fnT (kid k) ρ):=rfl;rw[h1,MZ kid ρ k,EZ];unfold iteB;rcases Y4 (cntT k λi=>fnT (kid i) ρ)with e|e
   . cases H:fnT (kid k) ρ<;>simp[e]<;>omega
   . cases H:fnT (kid k) ρ<;>simp[e]<;>omega
def TE (h:op=5\/op=6\/op=7)(v:Int)(n:Nat)(kid:Nat->ExT):fnT (.mk op v n kid)=accT op kid n:=by
 funext ρ;rcases h with rfl|rfl|rfl
 . rw[MX];rfl
 . rw[MY];rfl
 . rw[MZ];rfl
def Na (f:Nat->Bool):cntT 1 f=if f 0 then 1 else 0:=by rw[EZ];exact XO _
def TF (f:Nat->Bool):cntT 2 f=(if f 0 then 1 else 0)+(if f 1 then 1 else 0):=by rw[EZ,Na]
abbrev YM:=@decide_eq_true_iff
def TG (v:Int)(kid:Nat->ExT):fnT (.mk 4 v 1 kid)=notF (fnT (kid 0)):=by
 funext ρ
 show decide (cntT 1 (λi=>fnT (kid i) ρ)=0)= !(fnT (kid 0) ρ)
 rw[Zw,YM,Na];cases fnT (kid 0) ρ<;>simp
def TH (v:Int)(kid:Nat->ExT):fnT (.mk 10 v 3 kid)=Ba (fnT (kid 0)) (fnT (kid 1)) (fnT (kid 2)):=rfl
def TI (h:op=8\/op=9)(v:Int)(kid:Nat->ExT):fnT (.mk op v 2 kid)=DV op (fnT (kid 0)) (fnT (kid 1)):=by
 funext ρ;rcases h with rfl|rfl
 ·show(!fnT (kid 0) ρ||fnT (kid 1) ρ)=iteB (fnT (kid 0) ρ) (fnT (kid 1) ρ) true
  unfold iteB;cases fnT (kid 0) ρ<;>simp
 ·show decide (cntT 2 (λi=>fnT (kid i) ρ)≠1)=iteB (fnT (kid 0) ρ) (fnT (kid 1) ρ) (!fnT (kid 1) ρ)
  rw[Zw,YM,TF];unfold iteB;cases fnT (kid 0) ρ<;>cases fnT (kid 1) ρ<;>simp
def Nb (h:op=1\/op=2)(v:Int)(n:Nat)(kid:Nat->ExT):fnT (.mk op v n kid)=λ_=>decide (op=1):=by
 rcases h with rfl|rfl<;>rfl
def TJ (v:Nat)(n:Nat)(kid:Nat->ExT):fnT (.mk 3 v n kid)=varF v:=by
 funext ρ;rfl
def DepF (n:Nat)(F:BF):Prop:=∀ρ ρ':Nat->Bool,(∀i,i<n->ρ i=ρ' i)->F ρ=F ρ'
def Nc {f:Nat->List Int}{i:Nat}{x:Int}:∀{n:Nat},i<n->x∈f i->x∈Cd n f
 | 0,h,_=>by omega
 | k+1,h,hx=>by
   unfold Cd;rcases X9 i k with H|H
   . exact YL _ (Nc H hx)
   ·obtain rfl:i=k:=by omega
    exact Zf _ hx
abbrev Zr:=@Nat.pow_add
abbrev Y0:=@Nat.div_eq_of_lt
def JE (n:Nat)(ρ:Nat->Bool):∃i,i<2^n/\∀v,v<n->bitB i v=ρ v:=by
 induction n with
 | zero=>exact⟨0,by simp,λv I=>by omega⟩
 | succ n H=>
   obtain⟨i,hi,hb⟩:=H;have O:0<2^n:=Yg (by omega);refine⟨i+(if ρ n then 2^n else 0),by rw[XJ];split<;>omega,λv I=>?_⟩;rcases X9 v n with h|h
   ·rw[<-hb v h];unfold bitB;split
    ·obtain⟨k,rfl⟩:∃k,n=v+(k+1):=⟨n-v-1,by omega⟩;have e1:(2:Nat)^(v+(k+1))=2^v*(2*2^k):=by rw[Zr,XJ];ac_rfl
     rw[e1,Nat.add_mul_div_left _ _ (Yg (by omega)),Nat.add_mul_mod_self_left]
    . rw[Zh]
   ·obtain rfl:v=n:=by omega
    unfold bitB;cases U:ρ v with
    | true=>
      rw[Xx rfl,Nat.add_div_right _ O,Y0 hi];rfl
    | false=>
      rw[Xu (by simp),Zh,Y0 hi];rfl
def JF (O:DepF n F)(I:DepF n G)(h:tabB n F=tabB n G):F=G:=by
 funext ρ;obtain⟨i,hi,hb⟩:=JE n ρ;have e:∀v,v<n->ρ v=A4 (AE i n) v:=λv H=>by rw[FG,hb v H];simp[H]
 rw[O ρ _ e,I ρ _ e,<-EW (F:=F) hi,<-EW (F:=G) hi,h]
def TK {f:Nat->Nat}(h1:∀i,i<n->f i<n)(h2:∀i j,i<n->j<n->f i=f j->i=j)(I:j<n):∃i,i<n/\f i=j:=by
 by_cases h:∃i,i<n/\f i=j
 . exact h
 exfalso;have g0:∀i,i<n->f i≠j:=λi hi e=>h ⟨i,hi,e⟩
 have g1:(j::(List.range n).map f).Nodup:=by
  refine YO.2 ⟨?_,?_⟩
  . intro H;obtain⟨i,hi,e⟩:=X6.1 H;exact g0 i (YE.1 hi) e
  . refine YT.2 (List.nodup_range.imp_of_mem ?_);intro a b O hb g2 e;exact g2 (h2 a b (YE.1 O) (YE.1 hb) e)
 have:=CQ n _ g1 (λx hx=>by
  rcases Yy.1 hx with rfl|hx
  . exact I
  . obtain⟨i,hi,rfl⟩:=X6.1 hx;exact h1 i (YE.1 hi))
 simp at this;omega
def TL {zs:List Int}{v:Int}{p:Nat}(h:at0 zs p=v)(hu:∀i,i<zs.length->at0 zs i=v->i=p):∀k,k<=zs.length->cntP zs v k=if p<k then 1 else 0
 | 0,_=>by simp[cntP]
 | k+1,hk=>by
   have H:=TL h hu k (by omega)
   by_cases e:at0 zs k=v
   . have:=hu k (by omega) e;subst this;rw[E3 (by omega) e,H];simp
   ·rw[JC (by omega) e,H];have:p≠k:=λe2=>e (by rw[<-e2];exact h)
    by_cases h3:p<k
    . rw[Xx h3,Xx (by omega)]
    . rw[Xu h3,Xu (by omega)]
def FI {zs:List Int}{v:Int}{i:Nat}:∀{j:Nat},i<=j->j<=zs.length->cntP zs v i<=cntP zs v j
 | 0,h,_=>by
   obtain rfl:i=0:=by omega
   exact Xs _
 | j+1,h,hj=>by
   rcases X9 i (j+1)with H|H
   ·have:=FI (zs:=zs) (v:=v) (show i<=j by omega) (by omega)
    by_cases e:at0 zs j=v
    . rw[E3 (by omega) e];omega
    . rw[JC (by omega) e];omega
   ·obtain rfl:i=j+1:=by omega
    exact Xs _
structure JG (zs:List Int)(n:Nat):Prop where
 len:zs.length=n
 lt:∀i,i<n->∃v:Nat,v<n/\at0 zs i=(v:Nat)
 inj:∀i j,i<n->j<n->at0 zs i=at0 zs j->i=j
def TM (h:BW zs n=true):JG zs n:=by
 unfold BW at h;rw[Yk]at h;obtain⟨h1,h2⟩:=h;have g2:zs.length=n:=by omega
 subst g2;have U:∀v:Nat,v<zs.length->∃p,p<zs.length/\at0 zs p=(v:Nat):=by
  intro v H;have e:=h2 v H;unfold cntP at e;rw[XP]at e;have g:0<(zs.filter (λz=>decide (z=(v:Int)))).length:=by omega
  obtain⟨z,d⟩:=List.length_pos_iff_exists_mem.1 g;obtain⟨c,Z⟩:=YA.1 d;obtain⟨i,hi,e2⟩:=Yn c;refine⟨i,hi,?_⟩;rw[A8 hi,e2];simpa using Z
 have g0:∀i,i<zs.length->∃v,v<zs.length/\at0 zs i=(v:Nat):=by
  have k:∃f:Nat->Nat,∀v,v<zs.length->f v<zs.length/\at0 zs (f v)=(v:Nat):=by
   refine⟨λv=>if H:v<zs.length then Classical.choose (U v H)else 0,λv H=>?_⟩;dsimp only;rw[dif_pos H];exact aR (U v H)
  obtain⟨f,I⟩:=k;intro i hi
  obtain⟨v,H,e⟩:=TK (n:=zs.length) (f:=f) (λv H=>(I v H).1) (λa b l hb e=>by
   have e1:=(I a l).2;have e2:=(I b hb).2;rw[e,e2]at e1;omega) hi
  exact⟨v,H,by rw[<-e];exact(I v H).2⟩
 refine⟨rfl,g0,λi j hi X e=>?_⟩;obtain⟨v,H,O⟩:=g0 i hi;have q:=h2 v H;have Y:at0 zs j=(v:Nat):=by rw[<-e];exact O
 rcases Zx i j with g1|rfl|g1
 . have m:=E3 hi O;have a2:=E3 X Y;have a3:=FI (zs:=zs) (v:=(v:Nat)) (show i+1<=j by omega) (by omega);have a4:=FI (zs:=zs) (v:=(v:Nat)) (show j+1<=zs.length by omega) (Xs _);omega
 . rfl
 . have m:=E3 hi O;have a2:=E3 X Y;have a3:=FI (zs:=zs) (v:=(v:Nat)) (show j+1<=i by omega) (by omega);have a4:=FI (zs:=zs) (v:=(v:Nat)) (show i+1<=zs.length by omega) (Xs _);omega
def Nd {l:List Nat}(hi:i<l.length):at0 (l.map Int.ofNat) i=(l.getD i 0:Nat):=by
 rw[A8 (by simpa using hi)];simp[List.getD,hi]
def Ai.mem (h:Ai d V){v:Nat}(H:v<d.vars.length):∃i,i<d.vars.length/\d.vars.getD i 0=v:=⟨levN d v,h.dag.lt v H,h.inv v H⟩
def Ai.inj (h:Ai d V)(hi:i<d.vars.length)(H:j<d.vars.length)(e:d.vars.getD i 0=d.vars.getD j 0):i=j:=by
 have a:=(h.vlt i hi).2;have b:=(h.vlt j H).2;rw[e,b]at a;exact a.symm
def exL (l:List Nat)(k:Nat):List Nat:=(l.set k (l.getD (k+1) 0)).set (k+1) (l.getD k 0)
def TO {l:List Nat}(h:k+1<l.length):(exL l k).getD k 0=l.getD (k+1) 0:=by
 unfold exL;simp[List.getD,Yb,h,show k<l.length by omega]
def TP {l:List Nat}(h1:i≠k)(h2:i≠k+1):(exL l k).getD i 0=l.getD i 0:=by
 unfold exL;simp only[List.getD,Yb];rw[Xu (λe=>h2 e.symm),Xu (λe=>h1 e.symm)]
def TQ (d:Af)(k:Nat):(Bd d k).vars=exL d.vars k:=rfl
structure LawT (K:Law)(n:Nat)(Od:List Nat->Prop)(room:Nat)(w0:Wd)(mb:Nat)(fs:List (Int×BF))(nx:Int)(Wt:List Ev->Int->Prop)(hl hx:List (Int×BF))(W:Wd)(o:Own)(m:ManD)(V:Nat->BF)(vl vx:Value):Prop where
 sat:SatE K n Od room w0 mb fs nx W o m V
 b2:B2 fs
 st:Wt m.waits m.calls
 l:LawL W o w0.heap.size vl (hl.map Prod.fst)
 x:LawX W o w0.heap.size vx (hx.map λp=>tabB n p.2)
section
variable {Wt:List Ev->Int->Prop}{hl hx:List (Int×BF)}{o:Own}{p:Int×BF}
def LawT.below (h:LawT K n Od room w0 mb fs nx Wt hl hx W o m V vl vx)(hb:Bw W W'):LawT K n Od room w0 mb fs nx Wt hl hx W' o m V vl vx:=
 ⟨h.sat.below hb,h.b2,h.st,h.l.chg (Di hb o),h.x.chg (Di hb o)⟩
def LawT.below0 (h:LawT K n Od room w0 mb fs nx Wt hl hx W o m V vl vx):Bw w0 W:=h.sat.chg.below0
def LawT.go {Od':List Nat->Prop}{Wt':List Ev->Int->Prop}(h:LawT K n Od room w0 mb fs nx Wt hl hx W o m V vl vx)(hs:SatE K n Od' room w0 mb fs' nx' W' o' m' V')(hb:B2 fs')(I:Wt' m'.waits m'.calls)(H:ChgX NoB o o' W W'):
 LawT K n Od' room w0 mb fs' nx' Wt' hl hx W' o' m' V' vl vx:=⟨hs,hb,I,h.l.chg H,h.x.chg H⟩
def LawT.withOd {Od':List Nat->Prop}(h:LawT K n Od room w0 mb fs nx Wt hl hx W o m V vl vx)(hO:Od' m.d.vars):LawT K n Od' room w0 mb fs nx Wt hl hx W o m V vl vx:=⟨h.sat.withOd hO,h.b2,h.st,h.l,h.x⟩
def LawT.withSt {Wt':List Ev->Int->Prop}(h:LawT K n Od room w0 mb fs nx Wt hl hx W o m V vl vx)(hO:Wt' m.waits m.calls):LawT K n Od room w0 mb fs nx Wt' hl hx W o m V vl vx:=⟨h.sat,h.b2,hO,h.l,h.x⟩
def LawT.appL (h:LawT K n Od room w0 mb fs nx Wt hl hx W o m V vl vx)(H:OwnC 3 W' w0.heap.size v' (Ar (hl.map Prod.fst)++[Iv p.1]))(e1:W'.os=W.os)(e2:W'.tape=W.tape)(U:W'.output=W.output)(O:W.heap.size<=W'.heap.size)(hk:BG vl v' W W'):
 LawT K n Od room w0 mb fs nx Wt (hl++[p]) hx W' o m V v' vx:=by
 have I:=GH e1 e2 U O hk;refine⟨h.sat.other I (λk _ hk=>⟨(h.l.own.lt k hk).1,h.l.no k hk⟩),h.b2,h.st,?_,h.x.typ I (by decide) (by decide) h.l.own.typed⟩;rw[XG];exact h.l.app h.sat.lt H hk
def LawT.appX (h:LawT K n Od room w0 mb fs nx Wt hl hx W o m V vl vx)(hb:LawB W o w0.heap.size v bs)(Y:bs=tabB n p.2){rs:List Value}(X:rs.length=hx.length)(H:OwnC 28 W w0.heap.size vx rs)(O:∀i v,rs[i]?=some v->LawB W o w0.heap.size v ((hx.map λp=>tabB n p.2).getD i []))
 (I:OwnC 28 W' w0.heap.size v' (rs++[v])) (e1:W'.os=W.os) (e2:W'.tape=W.tape) (a:W'.output=W.output) (Z:W.heap.size<=W'.heap.size) (hk:BG vx v' W W'):LawT K n Od room w0 mb fs nx Wt hl (hx++[p]) W' o m V vl v':=by
 have U:=GH e1 e2 a Z hk;refine⟨h.sat.other U (λk _ hk=>⟨(H.lt k hk).1,h.x.no k hk⟩),h.b2,h.st,h.l.typ U (by decide) H.typed,?_⟩;rw[XG];have:=h.x.app h.sat.lt (by simp[X]) O U H.typed hb I hk;rw[Y]at this;exact this
def LawT.row (h:LawT K n Od room w0 mb fs nx Wt hs hs W o m V vl vx)(H:∀p∈hs,p∈fs)(I:hs.length<=1000):
 LawR (λg=>w0.heap.size<=g/\g<W.heap.size/\o g=none/\∃O,W.heap[g]?=some (.cells O 4 (0,0))) n fs W vl vx hs:=T2 h.l h.x H I
structure LawF (W:Wd)(o:Own)(v:Value)(bs:List Bool):Prop where
 is:Ay W v bs
 no:∀k,v.ownBlock=some k->k<W.heap.size/\o k=none/\∃cur,W.heap[k]?=some (.cells cur 4 (0,0))
def LawF.chg (h:LawF W o v bs)(H:ChgX NoB o o' W W'):LawF W' o' v bs:=
 ⟨h.is.same λk hk=>H.block k (h.no k hk).1 (h.no k hk).2.1 (λe=>e),λk hk=>by
  obtain⟨h1,h2,I,h3⟩:=h.no k hk;exact⟨X5 h1 H.size,H.none' h1 h2,I,(H.block k h1 h2 (λe=>e)).trans h3⟩⟩
end
def JH (b:Bool)(n:Nat)(H:n<=16)(w:Wd):Cl 19 #[.bool b,Iv n] w λx w'=>∃g,x=.returned (.slice (some (Av g)) (2^n) (2^n))/\OwnB w' w.heap.size (.slice (some (Av g)) (2^n) (2^n)) (tabB n (λ_=>b))/\Bw w w':=by
 have:=Tx b n H w;rw[T0]at this;exact this
def orF (F G:BF):BF:=Ba F (λ_=>true) G
def TabA (n:Nat)(W:Wd)(v:Value)(F:BF):Prop:=∃a c,v=.slice a (2^n) c/\AM W a (tabB n F)
def Nf (V:Nat->BF)(e:Nat):ef V (enot e)=notF (ef V e):=funext fun ρ=>DB V e ρ
def JI (K:Law)(n:Nat)(g:Nat)(G:BF->BF->BF):Prop:=∀(o:Own) (w:Wd) (xb mb:Nat) (m:ManD) (V:Nat->BF) (a b:Nat),AF (K m.d V) o w mb m->Ac o w->AR o w xb mb->Ai m.d V->m.d.vars.length=n->okE (Aa m.d) a->okE (Aa m.d) b ->
 Calls prog g #[Pt xb,Iv a,Iv b] w (AO K (2^n-1) o w mb m V λ_ V' r=>ef V' r=G (ef V a) (ef V b))
section
def D2 {o:Own}(h:AF (K m.d V) o w mb m)(H:okE (Aa m.d) e):e<eMax:=by
 obtain⟨s,hs⟩:=h;obtain⟨I,h2⟩:=hs.store;have:=h2.edge_lt H;unfold eMax;omega
def TR (Z:AC K):JI K n 90 orF:=by
 intro o w xb mb m V a b h g0 hx hk X Y hb;have H:=MM Z h g0 hx hk X a 0 b Y (.inl rfl) hb;have e:Ba (ef V a) (ef V 0) (ef V b)=orF (ef V a) (ef V b):=by
  rw[hk.dag.ef0];rfl
 rw[e]at H;have U:=Hd H;clear H e h g0 hx hk X Y hb Z
 go_enter func90,ntmps90
 go_wp2_with fail;refine U.o.mono ?_;rintro e w' (⟨r,o',m',V',rfl,h⟩|⟨er,I,ev,rfl,h⟩)
 . have O:=Hd h;clear h U;go_wp2;go_ret;exact .inl ⟨r,o',m',V',rfl,O.o⟩
 . have O:=Hd h;clear h U;unfold A1;go_wp2_with fail;exact⟨rfl,.inr ⟨er,I,ev,rfl,O.o⟩⟩
end
def TS (args:Array Value)(w:Wd):(callFunc 133 args).run prog w=.ok (.enter 133 args) w:=YF func133 (by kernel_rfl) rfl args w
section
variable {o:Own}
def C8 (G:BF->BF->BF)(C:BF)(Fs:List BF):BF:=Fs.foldl G C
def TT (G:BF->BF->BF)(C:BF)(hi:i<Fs.length):C8 G C (Fs.take (i+1))=G (C8 G C (Fs.take i)) Fs[i]:=by
 unfold C8;rw[XA hi,Zz];rfl
structure BoF (b1 bl bf:Nat)(e0:Nat)(a:Option Addr)(c:Nat)(ks:List Int)(g:Nat)(W:Wd):Prop where
 e:W.cell? (Av b1)=some (Iv e0)
 l:W.cell? (Av bl)=some (.slice a ks.length c)
 f:W.cell? (Av bf)=some (.func (.func g) #[] #[])
 z:Aj W a ks
def TU {G:BF->BF->BF}(hG:JI K n g G)(eg:∀args w,(callFunc g args).run prog w=.ok (.enter g args) w){b1 e0:Nat}{a:Option Addr}(M:e0/2=0)(B:Fs.length=ks.length)(C:∀i (h:i<ks.length),(ks[i],Fs[i]'(by omega))∈fs)(H:SatE K n Od room w0 mb fs nx w o m V)(E:BoF b1 bl bf e0 a c ks g w)(A:∀k,(k=b1\/k=bl\/k=bf\/∃x,a=some x/\k=x.block)->o k=none)(hx:AR o w xb mb):
 Cl 133 #[Pt xb,Pt b1,Pt bl,Pt bf] w (AO K (ks.length*(2^n-1)) o w mb m V λ_ V' r=>ef V' r=C8 G (ef V e0) Fs):=by
 have hk:=H.ok;have ce:=E.e;have cl:=E.l;have S:=Hd E;have g5:=Hd A;have gf:=E.z.len;obtain⟨I,D⟩:=Ex (λi r wr=>∃o' m' V',AtC K (i*(2^n-1)) o w mb m V o' wr m' V'/\okE (Aa m'.d) r/\ef V' r=C8 G (ef V e0) (Fs.take i):Nat->Nat->Wd->Prop)
 have g6:Hq (I 0 e0 w):=by rw[D];exact Hd ⟨o,m,V,(AtC.refl H.is H.lt hk.store).mono (by omega),.inl M,rfl⟩
 have g1:Hq (∀i r wr,I i r wr->∀p v,w.cell? p=some v->o p.block=none->wr.cell? p=some v):=by rw[D];exact Hd λi r wr ⟨o',m',V',h,_⟩ p v hc s=>h.st.chg.cell hc s
 obtain⟨P,J⟩:=Ex (AO K (ks.length*(2^n-1)) o w mb m V λ_ V' r=>ef V' r=C8 G (ef V e0) Fs:Ending->Wd->Prop)
 have g2:Hq (∀r wr,I ks.length r wr->P (.returned (Iv (r:Nat))) wr):=by
  rw[D,J];exact Hd λr wr ⟨o',m',V',h,h2,h3⟩=>.inl ⟨r,o',m',V',rfl,h,h2,by rw[<-B,XP]at h3;exact h3⟩
 have g0:Hq (∀i r wr,i<ks.length->I i r wr->∃f,(Cl 58 #[Pt xb,Iv (at0 ks i)] wr.drew λx w'=>x=.returned (Iv (f:Nat))/\wr.drew=w') /\
  Calls prog g #[Pt xb,Iv (r:Nat),Iv (f:Nat)] wr.drew λe w'=>(∃v,e=.returned v/\(w'.cell? (Av bf)=some (.func (.func g) #[] #[])/\True)/\∃X:Nat,v=Iv X/\I (i+1) X w')\/(∃ch,e=.panicked ch/\P (.panicked ch) w')):=by
  rw[D,J];refine Hd λi r wr hi ⟨o',m',V',h,h2,h3⟩=>?_
  have g9:=C i hi;obtain⟨f,L,e1⟩:=H.find g9;have g4:Bw wr wr.drew:=An wr 1;have O:=h.below g4;have g7:=hx.chg O.st.chg;have gc:(ks[i],f)∈m'.hs:=by rw[O.st.hs];exact L
  have gb:okE (Aa m'.d) f:=O.st.ext.ok (hk.handles.ok _ L);refine⟨f,by rw[A8 hi];exact DQ O.st.is g7 (by rw[O.st.hs];exact hk.handles.nodup) gc,?_⟩;refine(hG o' wr.drew xb mb m' V' r f O.st.is O.st.lt g7 O.st.ok (O.vars H.vars) h2 gb).mono ?_;rintro e w' (⟨X,o2,m2,V2,rfl,j,Z,q3⟩|⟨er,N,ev,rfl,q⟩)
  . have T:=O.trans j;refine .inl ⟨_,rfl,⟨T.st.chg.cell S.o.f (g5.o bf (.inr (.inr (.inl rfl)))),trivial⟩,X,rfl,o2,m2,V2,T.mono (by rw[Nat.succ_mul];exact Xs _),Z,?_⟩;have gd:ef V' f=Fs[i]'(by omega):=(O.st.ext.ef (hk.handles.ok _ L)).trans e1;rw[TT G _ (by omega),q3,h3,gd]
  . refine .inr ⟨_,rfl,.inr ⟨er,N,ev,rfl,q.after O ?_⟩⟩;have:=XS (2^n-1) (show i+1<=ks.length by omega);rw[Nat.succ_mul]at this;exact this
 rw[<-J];clear D J hG H E A hx hk C
 go_enter func133,ntmps133
 go_wp2
 go_loopw [6,8,12] (λs6 _ Y wr=>∃(i r:Nat),i<=ks.length/\Y=Iv i/\s6=Iv r/\Hq (I i r wr)) (λ_ _ Y _=>ks.length-(intOf Y).toNat)
 case atStart=>exact⟨0,e0,X0 _,rfl,rfl,g6⟩
 case round=>
  obtain⟨i,r,hi,rfl,rfl,y⟩:=hrel
  by_cases g8:i<ks.length
  ·have ga:(i:Int)<(ks.length:Int):=by omega
   obtain⟨f,hE,t⟩:=g0.o i r _ g8 y.o;obtain⟨b,off,rfl,ck⟩:=S.o.z.cells i g8;have Q:=g1.o _ _ _ y.o _ _ ck (g5.o b (.inr (.inr (.inr ⟨_,rfl,rfl⟩))));have F:=g1.o _ _ _ y.o _ _ S.o.f (g5.o bf (.inr (.inr (.inl rfl))));have g4:Bw wr wr.drew:=An wr 1;have u:=Cq g4 F;have HE:=Hd hE;have HS:=Hd t;clear hE t g4 F ck ce cl g6 g0 g2 y;go_upto_region 5 with fail;refine Jn (λW:Wd=>W.cell? (Av bf)=some (.func (.func g) #[] #[])/\True) (λch w'=>P (.panicked ch) w') 8 (λc a w O h=>⟨O,h⟩) (by kernel_rfl) ⟨u,trivial⟩ ?_;refine Ck 0 rfl rfl (by kernel_rfl) ?_;apply Exists.intro;refine⟨λw' U=>?_,?_⟩
   . obtain⟨j,Z⟩:=U;go_simp;rfl
   simp only[Ab];refine Ck 1 rfl rfl (by kernel_rfl) ?_;apply Exists.intro;refine⟨λw' U=>?_,?_⟩
   . obtain⟨j,Z⟩:=U;go_simp;rfl
   simp only[Ab];refine Ck 2 rfl rfl (by kernel_rfl) ?_;apply Exists.intro;refine⟨λw' U=>?_,?_⟩
   . obtain⟨j,Z⟩:=U;go_simp;rfl
   simp only[Ab];refine Ck 3 rfl rfl (by kernel_rfl) ?_;apply Exists.intro;refine⟨λw' U=>?_,?_⟩
   . obtain⟨j,Z⟩:=U;go_simp;rfl
   simp only[Ab];refine Ck 4 rfl rfl (by kernel_rfl) ?_;apply Exists.intro;refine⟨λw' U=>?_,?_⟩
   . obtain⟨j,Z⟩:=U;go_simp;rfl
   simp only[Ab];refine Df [5] (by kernel_rfl) (λi hi t o s=>?_);simp only[CA]at hi;subst hi;simp only[Cx]at s;subst s;refine⟨rfl,?_⟩;refine Dd (v:=Iv (f:Nat)) (R:=λw'=>wr.drew=w') (by go_simp) HE.o ?_;rintro w' rfl;refine⟨⟨u,trivial⟩,?_⟩;simp only[Ab];refine Df [6] (by kernel_rfl) (λi hi t o s=>?_);simp only[CA]at hi;subst hi;simp only[Cx]at s;subst s;refine⟨rfl,?_⟩;refine Jp (R:=λv w'=>(w'.cell? (Av bf)=some (.func (.func g) #[] #[])/\True)/\∃X:Nat,v=Iv X/\I (i+1) X w') (R2:=λch w'=>P (.panicked ch) w') (by go_simp) HS.o ?_ ?_
   ·rintro v w' ⟨t,X,rfl,g3⟩;refine⟨t,?_⟩;have ge:=Hd g3;clear g3;simp only[Ab];refine Ck 7 rfl rfl (by kernel_rfl) ?_;apply Exists.intro;refine⟨λw' U=>?_,?_⟩
    . obtain⟨j,Z⟩:=U;go_simp;rfl
    simp only[Ab];refine Jo (by kernel_rfl) ?_;clear t u Q;go_wp2;go_roundw
    case rel=>exact⟨i+1,X,by omega,by go_num,rfl,ge⟩
    case measure=>simp[intOf];omega
   . intro ch w' g3;exact⟨rfl,g3⟩
  ·obtain rfl:i=ks.length:=by omega
   have ga:¬ (ks.length:Int)<(ks.length:Int):=by omega
   have HF:=Hd (g2.o r _ y.o);clear g6 g0 g2 y ce cl;go_wp2_with fail;exact HF.o
end
section
variable {o:Own}
def NewF (K:Law)(n room:Nat)(w0:Wd)(mb:Nat)(fs:List (Int×BF))(nx:Int)(ws0:List Ev)(F:BF)(o:Own)(w:Wd)(x:Ending)(w':Wd):Prop:=
 x=.returned (.tuple #[Iv nx,Iv 0])/\∃o' m' V',ChgX NoB o o' w w'/\m'.waits <:+ ws0/\SatE K n (λ_=>True) room w0 mb (fs++[(nx,F)]) (nx+1) w' o' m' V'
def Ng {B:Wd->Prop}(i:AC K)(p:∀args w,(callFunc gop args).run prog w=.ok (.enter gop args) w)(ws0:List Ev)
 (Z:∀W W',B W->(∀c,C c->W'.heap[c]?=W.heap[c]?)->B W')
 (Y:∀(o:Own) (W:Wd) (m:ManD) (V:Nat->BF) (xb:Nat),SatE K n (λ_=>True) room w0 mb fs nx W o m V->B W->(∀k,C k->k<W.heap.size/\o k=none)->AR o W xb mb->¬ C xb->Calls prog gop (#[Pt xb]++lop) W (AO K k o W mb m V λ_ V' r=>ef V' r=F))
 (h:SatE K n (λ_=>True) room w0 mb fs nx w o m V) (H:Bw w w1) (U:∀c,C c->c<w1.heap.size/\(w.heap.size<=c\/(w0.heap.size<=c/\o c=none/\∀W,B W->W.heap[c]?=w.heap[c]?))) (hb:B w1) (X:m.waits <:+ ws0) (g:nx<=549755813888) (t:fs.length*2^n+k<=room):
 Cl 86 #[Pt mb,.func (.func gop) #[] lop] w1 (NewF K n room w0 mb fs nx ws0 F o w):=by
 have hw0:=h.chg.size;have g0:∀c,C c->o c=none:=λc I=>by
  rcases(U c I).2 with h1|⟨_,h1,_⟩
  . exact h.lt.none h1
  . exact h1
 refine(Jl i Z (λ_ _ _ _ _ h _=>h) StL.coll (λc I=>by
  rcases(U c I).2 with h1|⟨h1,_,_⟩
  . exact Xz hw0 h1
  . exact h1) p (Tt (k:=k) (F:=F) ws0 none (λ_ e=>by cases e) (λev _=>M8 g ev) Z Y) (h.below H) hb (λc I=>⟨(U c I).1,g0 c I⟩) ⟨X,λ_ e=>by cases e⟩ (by omega)).mono ?_
 rintro x w' ⟨o',m',V',g3,I,⟨r,m1,rfl,hs,⟨d,b,_⟩,_,_,_,_,_,a,_⟩|⟨er,m0,_,_,g2,⟨_,q,⟨W',s,A,hs'⟩,z,y,_⟩,l⟩⟩
 ·refine⟨rfl,o',m',V',⟨I.os.trans H.os,I.tape.trans H.tape,I.output.trans H.output,Xz H.size I.size,λj O f _=>?_,I.ext,λj O=>Xz H.size (I.new j O)⟩,by rw[a];exact b,by rw[<-d];exact hs⟩
  by_cases g1:C j
  ·rcases(U j g1).2 with h1|⟨_,_,h1⟩
   . omega
   . exact h1 w' g3
  . exact(I.block j (X5 O H.size) f g1).trans (H.block j O)
 . exfalso;have v:=hs'.few (l q);have u:=g2.room;omega
end
def TV (args:Array Value)(w:Wd):(callFunc 90 args).run prog w=.ok (.enter 90 args) w:=YF func90 (by kernel_rfl) rfl args w
def boxes3v (w:Wd)(x y z:Value)(s t u:TypeId):∃H,H=((w.alloc (.cells #[x] s)).alloc (.cells #[y] t)).alloc (.cells #[z] u)/\Bw w H/\H.heap.size=w.heap.size+3/\H.cell? (Av w.heap.size)=some x/\H.cell? (Av (w.heap.size+1))=some y/\H.cell? (Av (w.heap.size+1+1))=some z:=by
 refine⟨_,rfl,((Ag _ _).alloc (by simp) _).alloc (by simp;omega) _,by simp,?_,?_,?_⟩
 . exact cell1 ((X1 _ _ (by simp;omega)).trans ((X1 _ _ (by simp)).trans (Xv _ _)))
 . have:=Xv (w.alloc (.cells #[x] s)) (.cells #[y] t);rw[X3]at this;exact cell1 ((X1 _ _ (by simp)).trans this)
 . have:=Xv ((w.alloc (.cells #[x] s)).alloc (.cells #[y] t)) (.cells #[z] u);rw[X3,X3]at this;exact cell1 this
def DW (e0:Nat):BF:=λ_=>decide (e0=0)
def JJ (hk:Ai d V){e0:Nat}(h:e0/2=0):ef V e0=DW e0:=by
 rcases(show e0=0\/e0=1 by omega)with rfl|rfl
 . rw[hk.dag.ef0];rfl
 . rw[hk.dag.ef1];rfl
section
variable {o:Own}
def TW (r:AC K){G:BF->BF->BF}(s:JI K n g G)(D:∀args w,(callFunc g args).run prog w=.ok (.enter g args) w)(h:SatE K n (λ_=>True) room w0 mb fs nx w o m V){e0:Nat}{a:Option Addr}(X:e0/2=0)(j:Aj w a ks)(Z:∀x,a=some x->x.block<w.heap.size/\w0.heap.size<=x.block/\o x.block=none)(O:Fs.length=ks.length)(U:∀i (h:i<ks.length),(ks[i],Fs[i]'(by omega))∈fs)(I:m.waits <:+ ws0)(q:nx<=549755813888)(p:fs.length*2^n+ks.length*(2^n-1)<=room):
 Cl 89 #[Pt mb,Iv e0,.func (.func g) #[] #[],.slice a ks.length c] w (NewF K n room w0 mb fs nx ws0 (C8 G (DW e0) Fs) o w):=by
 have g5:∀(fn:Fn) (first cap:Array Value) (w:Wd),(Instr.makeFunc fn first cap).run prog w=.ok (.func fn first cap) w:=λ_ _ _ _=>rfl
 obtain⟨u,g1,g0,g3,t,c1,c2⟩:=boxes3v w (Iv e0) (.func (.func g) #[] #[]) (.slice a ks.length c) 107 201 22;have g4:Hq (_=u):=Hd g1.symm
 have g2:=Hd (Ng (C:=λk=>k=w.heap.size\/k=w.heap.size+1+1\/k=w.heap.size+1\/∃x,a=some x/\k=x.block) (B:=λW=>BoF w.heap.size (w.heap.size+1+1) (w.heap.size+1) e0 a c ks g W/\∀x,a=some x->W.heap[x.block]?=w.heap[x.block]?) (F:=C8 G (DW e0) Fs) (k:=ks.length*(2^n-1)) (lop:=#[Pt w.heap.size,Pt (w.heap.size+1+1),Pt (w.heap.size+1)]) r TS ws0
  (λW W' H hk=>⟨⟨Co H.1.e (hk _ (.inl rfl)),Co H.1.l (hk _ (.inr (.inl rfl))),Co H.1.f (hk _ (.inr (.inr (.inl rfl)))),⟨H.1.z.len,λi hi=>by
   obtain⟨b,off,e,v⟩:=H.1.z.cells i hi;exact⟨b,off,e,Co v (hk _ (.inr (.inr (.inr ⟨_,e,rfl⟩))))⟩⟩⟩,λx hx=>(hk _ (.inr (.inr (.inr ⟨x,hx,rfl⟩)))).trans (H.2 x hx)⟩)
  (λo W m V xb hs H A hx _=>by
   have:=TU s D X O U hs H.1 (λk hk=>(A k hk).2) hx;rw[JJ hs.ok.store X]at this;exact this) h g0 (by
   rintro k (rfl|rfl|rfl|⟨x,hx,rfl⟩)
   . exact⟨by omega,.inl (by omega)⟩
   . exact⟨by omega,.inl (by omega)⟩
   . exact⟨by omega,.inl (by omega)⟩
   . have:=Z x hx;exact⟨by omega,.inr ⟨this.2.1,this.2.2,λW y=>y.2 x hx⟩⟩) ⟨⟨t,c2,c1,j.below g0⟩,λx hx=>g0.block _ (Z x hx).1⟩ I q p)
 clear g1 g0 g3 t c1 c2 h r s I q p j Z U;obtain⟨P,d⟩:=Ex (NewF K n room w0 mb fs nx ws0 (C8 G (DW e0) Fs) o w);rw[<-d]at g2⊢;have E:Hq (∀x w',P x w'->∃a b,x=.returned (.tuple #[Iv a,Iv b])):=Hd (by subst d;rintro x w' ⟨rfl,_⟩;exact⟨_,_,rfl⟩);clear d
 go_enter func89,ntmps89
 go_upto_region 1 with fail;rw[g4.o];go_wp2_with fail;refine g2.o.mono ?_;intro x w' Y;obtain⟨a,b,rfl⟩:=E.o x w' Y;have J:=Hd Y;clear Y;go_wp2_with fail;exact J.o
end
def TX (w:Wd)(g:Fn)(fs cs:Array Value):(binOp .eql 112 (.func g fs cs) .nilFunc).run prog w=.ok (.bool false) w:=by
 have H:Op.maxDepth=9999+1:=rfl;have h:(Op.equal 112 (.func g fs cs) .nilFunc).run prog w=.ok false w:=by
  unfold Op.equal;rw[H];unfold Op.equalIn;simp only[Yx,XZ underlying112,XY];simp
 simp only[binOp];simp[h]
section
variable {B:Wd->Prop}{St:ManD->Prop}{QO:Nat->Own->Wd->ManD->(Nat->BF)->Prop}{QP:Own->Wd->ManD->(Nat->BF)->Prop}{Q:Wd->ManD->(Nat->BF)->Prop}{E:Int->ManD->ManD->Prop}
def OpLN (K:Law)(n:Nat)(Od:List Nat->Prop)(room:Nat)(w0:Wd)(mb:Nat)(fs:List (Int×BF))(nx:Int)(C:Nat->Prop)(B:Wd->Prop)(St:ManD->Prop)(gop:Nat)(lop:Array Value)(Q:Nat->Own->Wd->ManD->(Nat->BF)->Prop)(E:Int->ManD->ManD->Prop):Prop:=
 ∀(o:Own) (W:Wd) (m:ManD) (V:Nat->BF) (xb:Nat),SatE K n Od room w0 mb fs nx W o m V->B W->(∀k,C k->k<W.heap.size/\o k=none)->St m->AR o W xb mb->¬ C xb ->
  Calls prog gop (#[Pt xb]++lop) W λe w'=>∃(o':Own) (m':ManD) (V':Nat->BF),B9 C K o W mb m V o' w' m' V'/\B w' /\
   ((e=.returned (.tuple #[])/\Q W.heap.size o' w' m' V') \/
    (∃er:Int,e=A1 er false ev0/\er≠0/\m'.waits=m.waits/\St m'/\E er m m') \/
    (∃ev,e=A1 0 true ev/\m.waits=ev::m'.waits/\StE K n Od room w0 mb fs nx St m'/\HapG K n Od room w0 mb fs nx ev))
def Dm (W:Wd)(b:Nat):Prop:=∀k d,W.cell? (Aw b k)≠some (.int .u32 d)
structure Fa (K:Law)(n:Nat)(Od:List Nat->Prop)(room:Nat)(w0:Wd)(mb:Nat)(fs:List (Int×BF))(nx:Int)(C:Nat->Prop)(B:Wd->Prop)(St:ManD->Prop)(o0:Own)(w:Wd)(k:Nat)(full:Bool)(W:Wd)(o:Own)(m:ManD)(V:Nat->BF):Prop where
 sat:SatE K n Od room w0 mb fs nx W o m V
 bok:B W
 st:St m
 len:m.waits.length=k
 cok:∀c,C c->c<w.heap.size/\o c=none
 chg:ChgX C o0 o w W
 clean:full=true->m.d.dead=0
def Nh (K:Law)(n:Nat)(Od:List Nat->Prop)(room:Nat)(w0:Wd)(mb:Nat)(fs:List (Int×BF))(nx:Int)(C:Nat->Prop)(B:Wd->Prop)(Q:Own->Wd->ManD->(Nat->BF)->Prop)(E:Int->ManD->ManD->Prop)(o0:Own)(w:Wd)(er:Int)(W:Wd):Prop:=
 ∃o m V,SatE K n Od room w0 mb fs nx W o m V/\B W/\ChgX C o0 o w W/\((er=0/\Q o W m V)\/(er≠0/\∃m0:ManD,E er m0 m/\(er=7->m0.d.dead=0)))
def TY (g:∀W W',B W->(∀c,C c->W'.heap[c]?=W.heap[c]?)->B W')(J:∀s o W W' m V,(∀c,C c->c<s)->s+3<=W.heap.size->Dm W s/\Dm W (s+1)->QO (s+3) o W m V->Ali s W W'->QP o W' m V)(r:∀(m:ManD) (d:Af),St m->AN m.d d->St { m with d:=d })(X:∀c,C c->w0.heap.size<=c)(eg:∀args w,(callFunc gop args).run prog w=.ok (.enter gop args) w)
 (p:OpLN K n Od room w0 mb fs nx C B St gop lop QO E) {o:Own} {w:Wd} {m:ManD} {V:Nat->BF} (h:SatE K n Od room w0 mb fs nx w o m V) (hb:B w) (M:∀c,C c->c<w.heap.size/\o c=none) (l:St m):
 Cl 104 #[Pt mb,.func (.func gop) #[] lop] w λx w'=>∃er,x=.returned (Iv er)/\Nh K n Od room w0 mb fs nx C B QP E o w er w':=by
 have hw0:=h.chg.size;have g7:∀{k full W W' o1 m1 V1},Fa K n Od room w0 mb fs nx C B St o w k full W o1 m1 V1->∀{s:Nat},w.heap.size<=s->o1 s=none->o1 (s+1)=none->Ali s W W'->Fa K n Od room w0 mb fs nx C B St o w k full W' o1 m1 V1:=by
  intro k full W W' o1 m1 V1 hi s hs n0 U a;have hk:∀k,k<w.heap.size->W'.heap[k]?=W.heap[k]?:=λk hk=>a.keep k (by have:=hi.chg.size;omega) (by omega)
  refine⟨hi.sat.other a (λk _ e=>?_),g _ _ hi.bok (λc H=>hk c (hi.cok c H).1),hi.st,hi.len,hi.cok,hi.chg.trans (ChgX.of_wr (C:=λk=>w.heap.size<=k) a o1 (λk _ e=>by omega)) (λk hk e=>by omega),hi.clean⟩;rcases e with rfl|rfl
  . exact⟨by omega,n0⟩
  . exact⟨by omega,U⟩
 have gc:∀{k full full' W W' o1 m1 V1 o2 m2 V2},Fa K n Od room w0 mb fs nx C B St o w k full W o1 m1 V1->SatE K n Od room w0 mb fs nx W' o2 m2 V2->ChgX NoB o1 o2 W W'->m2.waits=m1.waits->St m2->(full'=true->m2.d.dead=0)->Fa K n Od room w0 mb fs nx C B St o w k full' W' o2 m2 V2:=by
  intro k full full' W W' o1 m1 V1 o2 m2 V2 hi gm H e1 e2 e3;have go:=hi.chg.size;exact⟨gm,g _ _ hi.bok (λc g8=>H.block c (by have:=(hi.cok c g8).1;omega) (hi.cok c g8).2 (λe=>e)),e2,by rw[e1];exact hi.len,λc g8=>⟨(hi.cok c g8).1,H.none' (by have:=(hi.cok c g8).1;omega) (hi.cok c g8).2⟩,hi.chg.trans H (λ_ _ e=>e.elim),e3⟩
 refine L9 mb _ _ _ eg (λk full W=>∃o1 m1 V1,Fa K n Od room w0 mb fs nx C B St o w k full W o1 m1 V1) _ ?_ m.waits.length ⟨o,m,V,h,hb,l,rfl,M,ChgX.of_below (X7 _ _) o C,by simp⟩;rintro k full W ⟨o1,m1,V1,hi⟩;have go:=hi.chg.size;obtain⟨s,hs⟩:=Ex W.heap.size
 refine⟨λst W1=>match st with
  | none=>∃(o':Own) (m':ManD) (V':Nat->BF),SatE K n Od room w0 mb fs nx W1 o' m' V'/\B W1/\ChgX C o o' w W1/\s+3<=W1.heap.size/\(∀q,w.heap.size<=q->q<s+3->o1 q=none->o' q=none)/\(Dm W1 s/\Dm W1 (s+1))/\QO (s+3) o' W1 m' V'
  | some (er,b,ev)=>∃(o':Own) (m':ManD) (V':Nat->BF),Fa K n Od room w0 mb fs nx C B St o w m'.waits.length false W1 o' m' V'/\s+3<=W1.heap.size/\(∀q,w.heap.size<=q->q<s+3->o1 q=none->o' q=none) /\
   ((b=false/\er≠0/\m'.waits=m1.waits/\E er m1 m')\/(b=true/\m1.waits=ev::m'.waits/\StE K n Od room w0 mb fs nx St m'/\HapG K n Od room w0 mb fs nx ev)),?_,?_,?_,?_,?_⟩
 ·unfold F6;have i:Bw W (tryW mb W):=((Ag _ _).alloc (by simp) _).alloc (by simp;omega) _;have D:(tryW mb W).heap.size=W.heap.size+3:=by unfold tryW;simp
  obtain⟨T,v⟩:=Ex (tryW mb W);have h1:(tryW mb W).heap[W.heap.size+2]?=some (.cells #[Pt mb] 161 (0,0)):=by
   have:=Xv ((W.alloc (.cells #[Iv 0,.bool false,Iv 0,Iv 0,Iv 0] 163)).alloc (.cells #[.bool false] 4)) (.cells #[Pt mb] 161);rw[X3,X3]at this;exact this
  have z:Dm (tryW mb W) W.heap.size:=λk d I=>by
   have e:(tryW mb W).heap[W.heap.size]?=some (.cells #[Iv 0,.bool false,Iv 0,Iv 0,Iv 0] 163 (0,0)):=
    (X1 _ _ (by simp;omega)).trans ((X1 _ _ (by simp)).trans (Xv _ _))
   rw[Xw _ _ _ _ _ _ e]at I;rcases(show k=0\/k=1\/k=2\/k=3\/k=4\/5<=k by omega)with rfl|rfl|rfl|rfl|rfl|hk
   . simp at I
   . simp at I
   . simp at I
   . simp at I
   . simp at I
   . rw[ZD (by simpa using hk)]at I;cases I
  have A:Dm (tryW mb W) (W.heap.size+1):=λk d I=>by
   have e0:=Xv (W.alloc (.cells #[Iv 0,.bool false,Iv 0,Iv 0,Iv 0] 163)) (.cells #[.bool false] 4);rw[X3]at e0;have e:(tryW mb W).heap[W.heap.size+1]?=some (.cells #[.bool false] 4 (0,0)):=
    (X1 _ _ (by simp)).trans e0
   rw[Xw _ _ _ _ _ _ e]at I;rcases(show k=0\/1<=k by omega)with rfl|hk
   . simp at I
   . rw[ZD (by simpa using hk)]at I;cases I
  rw[<-v]at i D h1 z A⊢;clear v;have g6:=hi.sat.below i;have N:AR o1 T (W.heap.size+2) mb:=⟨cell1 h1,hi.sat.lt.none (by omega)⟩;have y:∀q,w.heap.size<=q->¬ C q:=λq hq e=>by have:=(hi.cok q e).1;omega
  have t:∀{o':Own} {w1:Wd},ChgX C o1 o' T w1->∀q,w.heap.size<=q->q<s+3->o1 q=none->w1.heap[q]?=T.heap[q]?:=λH q h1 h2 h3=>H.block q (by omega) h3 (y q h1)
  have n0:o1 W.heap.size=none:=hi.sat.lt.none (Xs _);have U:o1 (W.heap.size+1)=none:=hi.sat.lt.none (by omega);refine(p o1 T m1 V1 (W.heap.size+2) g6 (g _ _ hi.bok (λc H=>i.block c (by have:=(hi.cok c H).1;omega))) (λc H=>⟨by have:=(hi.cok c H).1;omega,(hi.cok c H).2⟩) hi.st N (y _ (by omega))).mono ?_;rintro e w1 ⟨o',m',V',st,b1,gg⟩;have gv:=st.chg.size;have gf:=(hi.chg.trans (ChgX.of_below i o1 C) (λ_ _ e=>e)).trans st.chg (λ_ _ e=>e);refine⟨by omega,t st.chg _ (by omega) (by omega) n0,t st.chg _ (by omega) (by omega) U,?_⟩;have g9:∀q,w.heap.size<=q->q<s+3->o1 q=none->o' q=none:=λq _ h2 h3=>st.chg.none' (by omega) h3
  have ge:∀c,C c->c<w.heap.size/\o' c=none:=λc H=>⟨(hi.cok c H).1,st.chg.none' (by have:=(hi.cok c H).1;omega) (hi.cok c H).2⟩
  rcases gg with ⟨rfl,Y⟩|⟨er,rfl,Y,f,j,F⟩|⟨ev,rfl,Y,f,j⟩
  ·have hu:∀{q:Nat},q<s+3->w.heap.size<=q->o1 q=none->Dm T q->Dm w1 q:=λh2 h1 h3 G k d I=>G k d (by
    have e:=t st.chg _ h1 h2 h3;exact(XR (w:=T) (a:=Aw _ k) e).symm.trans I)
   exact .inl ⟨rfl,o',m',V',g6.step st X,b1,gf,by omega,g9,⟨by rw[hs];exact hu (by omega) (by omega) n0 z,by rw[hs];exact hu (by omega) (by omega) U A⟩,by rw[hs,<-D];exact Y⟩
  . exact .inr ⟨er,false,ev0,rfl,o',m',V',⟨g6.step st X,b1,j,rfl,ge,gf,by simp⟩,by omega,g9,.inl ⟨rfl,Y,f,F⟩⟩
  . exact .inr ⟨0,true,ev,rfl,o',m',V',⟨g6.step st X,b1,f _ _ _ _ (g6.step st X) rfl rfl (.inl (Xs _)),rfl,ge,gf,by simp⟩,by omega,g9,.inr ⟨rfl,Y,f,j⟩⟩
 ·rintro W1 W2 ⟨o',m',V',a1,a2,a3,a4,a5,au,a8⟩ O;rw[<-hs]at O;have n0:o' s=none:=a5 s (by omega) (by omega) (by rw[hs];exact hi.sat.lt.none (Xs _));have U:o' (s+1)=none:=a5 (s+1) (by omega) (by omega) (by rw[hs];exact hi.sat.lt.none (by omega));have hk:∀c,C c->W2.heap[c]?=W1.heap[c]?:=λc H=>O.keep c (by have:=(hi.cok c H).1;omega) (by have:=(hi.cok c H).1;omega)
  refine⟨o',m',V',a1.other O (λk _ e=>?_),g _ _ a2 hk,a3.trans (ChgX.of_wr (C:=λk=>w.heap.size<=k) O o' (λk _ e=>by omega)) (λk hk e=>by omega),.inl ⟨rfl,J s _ _ _ _ _ (λc H=>by have:=(hi.cok c H).1;omega) a4 au a8 O⟩⟩;rcases e with rfl|rfl
  . exact⟨by omega,n0⟩
  . exact⟨by omega,U⟩
 ·rintro er ev W1 W2 ⟨o',m',V',Z,a4,a5,(⟨h1,_⟩|⟨_,Q,S,gt⟩)⟩ O
  . cases h1
  rw[<-hs]at O;have n0:o' s=none:=a5 s (by omega) (by omega) (by rw[hs];exact hi.sat.lt.none (Xs _));have U:o' (s+1)=none:=a5 (s+1) (by omega) (by omega) (by rw[hs];exact hi.sat.lt.none (by omega));have g0:=g7 Z (by omega) n0 U O;refine(gt o' W2 m' V' g0.sat).mono ?_;rintro x w' ⟨rfl,o2,m2,V2,g1,g2,g3,g5,g4⟩;exact⟨rfl,m'.waits.length,by rw[<-hi.len,Q];simp,o2,m2,V2,gc g0 g1 g4 g2 (S _ _ _ _ g1 g2 g3 g5) (by simp)⟩
 ·rintro ev W1 W2 ⟨o',m',V',Z,a4,a5,(⟨_,_,u,_⟩|⟨h1,_⟩)⟩ O gu
  . rw[<-hs]at O;have n0:o' s=none:=a5 s (by omega) (by omega) (by rw[hs];exact hi.sat.lt.none (Xs _));have U:o' (s+1)=none:=a5 (s+1) (by omega) (by omega) (by rw[hs];exact hi.sat.lt.none (by omega));have g0:=g7 Z (by omega) n0 U O;refine(LR g0.sat).mono ?_;rintro x w' ⟨rfl,o2,d2,g1,g2,g3⟩;have gk:=gc (full':=true) g0 g1 (ChgX.of_chg g3 NoB) rfl (r _ _ g0.st g2) (λ_=>g2.dead);rw[u,hi.len]at gk;exact⟨⟨_,rfl⟩,o2,_,V',gk⟩
  . cases h1
 ·rintro er ev W1 W2 ⟨o',m',V',Z,a4,a5,(⟨_,h0,u,L⟩|⟨h1,_⟩)⟩ O R
  ·rw[<-hs]at O;have n0:o' s=none:=a5 s (by omega) (by omega) (by rw[hs];exact hi.sat.lt.none (Xs _));have U:o' (s+1)=none:=a5 (s+1) (by omega) (by omega) (by rw[hs];exact hi.sat.lt.none (by omega));have g0:=g7 Z (by omega) n0 U O;refine⟨o',m',V',g0.sat,g0.bok,g0.chg,.inr ⟨h0,m1,L,λe7=>hi.clean ?_⟩⟩;cases full with
   | true=>rfl
   | false=>exact(R ⟨e7,rfl⟩).elim
  . cases h1
def JK (a:∀W W',B W->(∀c,C c->W'.heap[c]?=W.heap[c]?)->B W')(Y:∀s o W W' m V,(∀c,C c->c<s)->s+3<=W.heap.size->Dm W s/\Dm W (s+1)->QO (s+3) o W m V->Ali s W W'->QP o W' m V)(O:∀(m:ManD) (d:Af),St m->AN m.d d->St { m with d:=d })(U:∀c,C c->w0.heap.size<=c)(b:∀args w,(callFunc gop args).run prog w=.ok (.enter gop args) w)
 (I:OpLN K n Od room w0 mb fs nx C B St gop lop QO E) {o:Own} {w:Wd} {m:ManD} {V:Nat->BF} (h:SatE K n Od room w0 mb fs nx w o m V) (hb:B w) (Z:∀c,C c->c<w.heap.size/\o c=none) (H:St m):
 Cl 56 #[Pt mb,.func (.func gop) #[] lop] w λx w'=>∃er,x=.returned (Iv er)/\Nh K n Od room w0 mb fs nx C B QP E o w er w':=by
 have g0:=Hd (TY a Y O U b I h hb Z H);have g1:=TX w (.func gop) #[] lop;clear h hb a Y O U I Z H
 go_enter func56,ntmps56
 go_wp2_with fail;refine g0.o.mono ?_;rintro x w1 ⟨er,rfl,X⟩;have e:=Hd X;clear X g0;go_wp2;go_ret;exact⟨er,rfl,e.o⟩
end
structure ArgL (fs:List (Int×BF))(w0 w:Wd)(o:Own)(a:Option Addr)(ks:List Int)(Fs:List BF):Prop where
 z:Aj w a ks
 own:∀x,a=some x->x.block<w.heap.size/\w0.heap.size<=x.block/\o x.block=none
 len:Fs.length=ks.length
 mem:∀i (h:i<ks.length),(ks[i],Fs[i]'(by omega))∈fs
section
variable {o:Own}
def TZ (U:AC K)(h:SatE K n (λ_=>True) room w0 mb fs nx w o m V){a:Option Addr}(hl:ArgL fs w0 w o a ks Fs)(H:m.waits <:+ ws0)(Y:nx<=549755813888)(X:fs.length*2^n+ks.length*(2^n-1)<=room):
 Cl 39 #[Pt mb,.slice a ks.length c] w (NewF K n room w0 mb fs nx ws0 (C8 orF (DW 1) Fs) o w):=by
 have Z:=Hd (TW (c:=c) U (TR U) TV h (e0:=1) rfl hl.z hl.own hl.len hl.mem H Y X);clear h U hl H Y X;obtain⟨P,O⟩:=Ex (NewF K n room w0 mb fs nx ws0 (C8 orF (DW 1) Fs) o w);rw[<-O]at Z⊢;have d:Hq (∀x w',P x w'->∃a b,x=.returned (.tuple #[Iv a,Iv b])):=Hd (by subst O;rintro x w' ⟨rfl,_⟩;exact⟨_,_,rfl⟩);clear O
 go_enter func39,ntmps39
 go_wp2_with fail;refine Z.o.mono ?_;intro x w' I;obtain⟨a,b,rfl⟩:=d.o x w' I;have e:=Hd I;clear I;go_wp2_with fail;exact e.o
end
def E4 (W:Wd)(zs:List Int)(hl:zs.length<=1000000):Aj (W.alloc (.cells (Ar zs).toArray 3)) (some (Av W.heap.size)) zs:=
 ⟨by omega,λk hk=>⟨W.heap.size,0,rfl,by
  rw[XO,Xw _ _ k _ _ _ (Xv _ _)];simp[Ar,A8 hk,hk]⟩⟩
section
variable {o:Own}
def Goes (K:Law)(n:Nat)(Od:List Nat->Prop)(room:Nat)(w0:Wd)(mb:Nat)(fs:List (Int×BF))(nx:Int)(Wt:List Ev->Int->Nat->Prop)(o:Own)(w w':Wd):Prop:=
 ∃o' m' V',ChgX NoB o o' w w'/\Wt m'.waits m'.calls m'.d.pool.many/\SatE K n Od room w0 mb fs nx w' o' m' V'
def NoW (M:Nat)(ws:List Ev)(_:Int)(k:Nat):Prop:=ws=[]/\k<=M
abbrev W2 (Wt:List Ev->Int->Prop):List Ev->Int->Nat->Prop:=λws c _=>Wt ws c
def Goes.more {M M':Nat}(h:Goes K n Od room w0 mb fs nx (NoW M) o w w')(H:M<=M'):Goes K n Od room w0 mb fs nx (NoW M') o w w':=by
 obtain⟨o',m',V',h1,h2,h3⟩:=h;exact⟨o',m',V',h1,⟨h2.1,Xz h2.2 H⟩,h3⟩
def Goes.below {Wt:List Ev->Int->Nat->Prop}{w'':Wd}(h:Goes K n Od room w0 mb fs nx Wt o w w')(hb:Bw w' w''):Goes K n Od room w0 mb fs nx Wt o w w'':=by
 obtain⟨o',m',V',h1,h2,h3⟩:=h;exact⟨o',m',V',h1.trans (Di hb o') (λ_ _ e=>e),h2,h3.below hb⟩
abbrev ZU:=@List.suffix_refl
def JL (f:AC K){M:Nat}(h:Goes K n Od room w0 mb fs nx (NoW M) o w w')(g:nx<549755813888)(a:M+(2^n-1)<=room){O I:Int}{H:BF}(d:(kf,F)∈fs)(c:(O,G)∈fs)(hh:(I,H)∈fs):
 Cl 97 #[Pt mb,Iv kf,Iv O,Iv I] w' λx w''=>x=.returned (.tuple #[Iv nx,Iv 0])/\Goes K n Od room w0 mb (fs++[(nx,Ba F G H)]) (nx+1) (NoW (M+(2^n-1))) o w w'':=by
 obtain⟨o',m',V',h1,h2,h3⟩:=h;refine(RP f h3 [] (by rw[h2.1];exact ZU _) (some M) (λ_ e=>by cases e;exact⟨rfl,a⟩) (λ_ e=>by cases e;exact h2.2) (by simp) (by omega) d c hh).mono ?_;rintro x w'' b;obtain⟨o2,m2,V2,Z,Y,X,U⟩:=MK b;exact⟨X,o2,m2,V2,h1.trans Z (λ_ _ e=>e),Y,U⟩
def Ua (a:AC K){M:Nat}(h:Goes K n Od room w0 mb fs nx (NoW M) o w w')(b:nx<549755813888)(Y:M+1<=room){v:Nat}(X:v<n):
 Cl 38 #[Pt mb,Iv v] w' λx w''=>x=.returned (.tuple #[Iv nx,Iv 0])/\Goes K n Od room w0 mb (fs++[(nx,varF v)]) (nx+1) (NoW (M+1)) o w w'':=by
 obtain⟨o',m',V',h1,h2,h3⟩:=h;refine(LV a h3 [] (by rw[h2.1];exact ZU _) (some M) (λ_ e=>by cases e;exact⟨rfl,Y⟩) (λ_ e=>by cases e;exact h2.2) (by simp) (by omega) v X).mono ?_;rintro x w'' Z;obtain⟨o2,m2,V2,U,O,I,H⟩:=MK Z;exact⟨I,o2,m2,V2,h1.trans U (λ_ _ e=>e),O,H⟩
def Ni (O:AC K){Wt:List Ev->Int->Nat->Prop}(h:Goes K n Od room w0 mb fs nx Wt o w w')(H:nx<549755813888){k:Int}(I:(k,F)∈fs):
 Cl 96 #[Pt mb,Iv k] w' λx w''=>x=.returned (.tuple #[Iv nx,Iv 0])/\Goes K n Od room w0 mb (fs++[(nx,notF F)]) (nx+1) Wt o w w'':=by
 obtain⟨o',m',V',h1,h2,h3⟩:=h;refine(Ti O h3 H I).mono ?_;rintro x w'' ⟨rfl,o2,m2,q⟩;exact⟨rfl,o2,m2,V',h1.trans (ChgX.of_chg q.chg NoB) (λ_ _ e=>e),by rw[q.waits,q.calls,q.many];exact h2,q.sat⟩
def GL (O:AC K){Wt:List Ev->Int->Nat->Prop}(h:Goes K n Od room w0 mb fs nx Wt o w w')(H:nx<549755813888){k:Int}(I:(k,F)∈fs):
 Cl 93 #[Pt mb,Iv k] w' λx w''=>x=.returned (.tuple #[Iv nx,Iv 0])/\Goes K n Od room w0 mb (fs++[(nx,F)]) (nx+1) Wt o w w'':=by
 obtain⟨o',m',V',h1,h2,h3⟩:=h;refine(M9 O h3 H I).mono ?_;rintro x w'' ⟨rfl,o2,m2,q⟩;exact⟨rfl,o2,m2,V',h1.trans (ChgX.of_chg q.chg NoB) (λ_ _ e=>e),by rw[q.waits,q.calls,q.many];exact h2,q.sat⟩
def GM (O:AC K){Wt:List Ev->Int->Nat->Prop}{r:List (Int×BF)}(h:Goes K n Od room w0 mb (fs++(hs++r)) nx Wt o w w')(hb:B2 fs)(H:nx<549755813888)(hl:hs.length<=1000){T:Wd}(I:T=w'.alloc (.cells (Ar (hs.map Prod.fst)).toArray 3)):
 Cl 74 #[Pt mb,.slice (some (Av w'.heap.size)) hs.length hs.length] T λx w''=>x=.returned (Iv 0)/\Goes K n Od room w0 mb (fs++r) nx Wt o w w'':=by
 obtain⟨o',m',V',h1,h2,h3⟩:=h;subst I;have g0:=Ag w' (.cells (Ar (hs.map Prod.fst)).toArray 3);refine(MJ O (h3.below g0) hb H (E4 w' (hs.map Prod.fst) (by simp;omega)) (λx hx=>by cases hx;exact h3.lt.none (Xs _))).mono ?_;rintro x w'' ⟨rfl,o2,m2,q⟩;exact⟨rfl,o2,m2,V',(h1.trans (Di g0 o') (λ_ _ e=>e)).trans (ChgX.of_chg q.chg NoB) (λ_ _ e=>e),by rw[q.waits,q.calls,q.many];exact h2,q.sat⟩
def Nj (Z:AC K){a b:Int}{M:Nat}(h:Goes K n Od room w0 mb (fs++[(a,F),(b,G)]) nx (NoW M) o w w')(hb:B2 fs)(s:nx+2<549755813888)(i:M+(2^n-1)<=room)(u:5<=op)(t:op<=9):
 Cl 95 #[Pt mb,Iv op,Iv a,Iv b] w' λx w''=>∃k:Int,x=.returned (.tuple #[Iv k,.bool true])/\k<=nx+1/\Goes K n Od room w0 mb (fs++[(k,DV op F G)]) (k+1) (NoW (M+(2^n-1))) o w w'':=by
 obtain⟨M',p⟩:=Ex (M+(2^n-1));have g5:Hq (∀c d e A B C,(c,A)∈fs++[(a,F),(b,G)]->(d,B)∈fs++[(a,F),(b,G)]->(e,C)∈fs++[(a,F),(b,G)]->Cl 97 #[Pt mb,Iv c,Iv d,Iv e] w' λx w''=>x=.returned (.tuple #[Iv nx,Iv 0])/\Goes K n Od room w0 mb (fs++[(a,F),(b,G)]++[(nx,Ba A B C)]) (nx+1) (NoW (M+(2^n-1))) o w w''):=
  Hd λc d e A B C h1 h2 h3=>JL Z h (by omega) i h1 h2 h3
 have g6:=Hd (Ni Z h (by omega) (k:=b) (F:=G) (by simp))
 have g0:Hq (∀W,Goes K n Od room w0 mb (fs++[(a,F),(b,G)]++[(nx,notF G)]) (nx+1) (NoW M) o w W->∀c d e A B C,(c,A)∈fs++[(a,F),(b,G)]++[(nx,notF G)]->(d,B)∈fs++[(a,F),(b,G)]++[(nx,notF G)]->(e,C)∈fs++[(a,F),(b,G)]++[(nx,notF G)] ->
  Cl 97 #[Pt mb,Iv c,Iv d,Iv e] W λx w''=>x=.returned (.tuple #[Iv (nx+1),Iv 0])/\Goes K n Od room w0 mb (fs++[(a,F),(b,G)]++[(nx,notF G)]++[(nx+1,Ba A B C)]) (nx+1+1) (NoW (M+(2^n-1))) o w w''):=
  Hd λW Y c d e A B C h1 h2 h3=>JL Z Y (by omega) i h1 h2 h3
 have g7:Hq (∀W H T,Goes K n Od room w0 mb (fs++[(a,F),(b,G)]++[(nx,notF G)]++[(nx+1,H)]) (nx+1+1) (NoW M') o w W->T=W.alloc (.cells #[Iv nx] 3)->Cl 74 #[Pt mb,.slice (some (Av W.heap.size)) 1 1] T λx w''=>x=.returned (Iv 0)/\Goes K n Od room w0 mb (fs++[(a,F),(b,G)]++[(nx+1,H)]) (nx+1+1) (NoW M') o w w''):=
  Hd λW H T Y j=>GM Z (hs:=[(nx,notF G)]) (r:=[(nx+1,H)]) (by rw[XF]at Y;exact Y) (hb.app _) (by omega) (by simp) j
 have g8:Hq (∀W k H T,k+1<549755813888->Goes K n Od room w0 mb (fs++[(a,F),(b,G)]++[(k,H)]) (k+1) (NoW M') o w W->T=W.alloc (.cells #[Iv a,Iv b] 3)->Cl 74 #[Pt mb,.slice (some (Av W.heap.size)) 2 2] T λx w''=>x=.returned (Iv 0)/\Goes K n Od room w0 mb (fs++[(k,H)]) (k+1) (NoW M') o w w''):=
  Hd λW k H T hk Y j=>GM Z (hs:=[(a,F),(b,G)]) (r:=[(k,H)]) (by rw[XF]at Y;exact Y) hb (by omega) (by simp) j
 have m0:(0,λ_=>false)∈fs++[(a,F),(b,G)]:=YL _ hb.zero;have m1:(1,λ_=>true)∈fs++[(a,F),(b,G)]:=YL _ hb.one;have g:(a,F)∈fs++[(a,F),(b,G)]:=by simp
 have X:(b,G)∈fs++[(a,F),(b,G)]:=by simp
 have m:(a,F)∈fs++[(a,F),(b,G)]++[(nx,notF G)]:=by simp
 have pb:(b,G)∈fs++[(a,F),(b,G)]++[(nx,notF G)]:=by simp
 have l:(nx,notF G)∈fs++[(a,F),(b,G)]++[(nx,notF G)]:=by simp
 rw[<-p]at g5 g0⊢;clear h hb i Z p;rcases(show op=5\/op=6\/op=7\/op=8\/op=9 by omega)with rfl|rfl|rfl|rfl|rfl
 ·have I:=Hd (g5.o a b 0 _ _ _ g X m0);clear g5 g0 g6 g7
  go_enter func95,ntmps95
  go_wp2_with fail;refine I.o.mono ?_;rintro x w1 ⟨rfl,g1⟩;have O:=Hd (g8.o w1 nx _ _ (by omega) g1 rfl);clear g1 I;go_wp2_with fail;refine O.o.mono ?_;rintro x w2 ⟨rfl,g2⟩;have U:=Hd g2;clear g2 O;go_wp2
  go_ret2
  exact⟨nx,rfl,by omega,U.o⟩
 ·have I:=Hd (g5.o a 1 b _ _ _ g m1 X);clear g5 g0 g6 g7
  go_enter func95,ntmps95
  go_wp2_with fail;refine I.o.mono ?_;rintro x w1 ⟨rfl,g1⟩;have O:=Hd (g8.o w1 nx _ _ (by omega) g1 rfl);clear g1 I;go_wp2_with fail;refine O.o.mono ?_;rintro x w2 ⟨rfl,g2⟩;have U:=Hd g2;clear g2 O;go_wp2
  go_ret2
  exact⟨nx,rfl,by omega,U.o⟩
 ·clear g5
  go_enter func95,ntmps95
  go_wp2_with fail;refine g6.o.mono ?_;rintro x w1 ⟨rfl,g1⟩;have I:=Hd (g0.o w1 g1 a nx b _ _ _ m l pb);clear g1 g6 g0;go_wp2_with fail;refine I.o.mono ?_;rintro x w2 ⟨rfl,g2⟩;have g9:=Hd (g7.o w2 _ _ g2 rfl);clear g2 I g7;go_wp2_with fail;refine g9.o.mono ?_;rintro x f ⟨rfl,g3⟩;have O:=Hd (g8.o f (nx+1) _ _ (by omega) g3 rfl);clear g3 g9;go_wp2_with fail;refine O.o.mono ?_;rintro x q ⟨rfl,g4⟩;have U:=Hd g4;clear g4 O;go_wp2
  go_ret2
  exact⟨nx+1,rfl,by omega,U.o⟩
 ·have I:=Hd (g5.o a b 1 _ _ _ g X m1);clear g5 g0 g6 g7
  go_enter func95,ntmps95
  go_wp2_with fail;refine I.o.mono ?_;rintro x w1 ⟨rfl,g1⟩;have O:=Hd (g8.o w1 nx _ _ (by omega) g1 rfl);clear g1 I;go_wp2_with fail;refine O.o.mono ?_;rintro x w2 ⟨rfl,g2⟩;have U:=Hd g2;clear g2 O;go_wp2
  go_ret2
  exact⟨nx,rfl,by omega,U.o⟩
 ·clear g5
  go_enter func95,ntmps95
  go_wp2_with fail;refine g6.o.mono ?_;rintro x w1 ⟨rfl,g1⟩;have I:=Hd (g0.o w1 g1 a b nx _ _ _ m pb l);clear g1 g6 g0;go_wp2_with fail;refine I.o.mono ?_;rintro x w2 ⟨rfl,g2⟩;have g9:=Hd (g7.o w2 _ _ g2 rfl);clear g2 I g7;go_wp2_with fail;refine g9.o.mono ?_;rintro x f ⟨rfl,g3⟩;have O:=Hd (g8.o f (nx+1) _ _ (by omega) g3 rfl);clear g3 g9;go_wp2_with fail;refine O.o.mono ?_;rintro x q ⟨rfl,g4⟩;have U:=Hd g4;clear g4 O;go_wp2
  go_ret2
  exact⟨nx+1,rfl,by omega,U.o⟩
end
section
variable {o:Own}
def FJ (h:n<=16):2^n<=1000000:=Xz (X8 (by omega) h) (by decide)
abbrev SufW (ws0:List Ev):List Ev->Int->Prop:=λws _=>ws <:+ ws0
end
def Nk (bx H:List Bool)(I:H.length=bx.length)(d c:Option Addr)(l k:Nat)(w:Wd)(h1:AM w d bx)(h2:AM w c H):
 Cl 20 #[.slice d bx.length l,.slice c bx.length k] w (Bl (.bool (decide (bx=H))) w):=by
 have n:=Hd h1;have m:=Hd h2;have hl:=h1.len;have g7:=Hd I;obtain⟨L,a⟩:=Ex bx.length;have b:=Hd a;rw[<-a]at hl⊢;clear h1 h2 a I
 go_enter func20,ntmps20
 go_wp2
 go_loopw [4,5] (λp X wr=>∃j:Nat,j<=L/\X=Iv j/\Hq (Bw w wr)/\Hq (∀q,q<j->bx.getD q false=H.getD q false)) (λ_ X _=>L-(intOf X).toNat)
 case atStart=>exact⟨0,X0 _,rfl,Hd (X7 _ _),Hd λq g=>by omega⟩
 case round=>
  obtain⟨j,r,rfl,U,HQ⟩:=hrel
  by_cases g4:j<L
  ·obtain⟨b1,Z,rfl,c1⟩:=(n.o.below U.o).cells j (by rw[<-b.o];exact g4);obtain⟨b2,Y,rfl,c2⟩:=(m.o.below U.o).cells j (by rw[g7.o,<-b.o];exact g4);have g2:=Hd (U.o.trans ((An wr 1).mono U.o.size));have g9:(j:Int)<(L:Int):=by omega
   obtain⟨y1,g1⟩:∃y,y=bx.getD j false:=⟨_,rfl⟩;obtain⟨y2,g0⟩:∃y,y=H.getD j false:=⟨_,rfl⟩;rw[<-g1]at c1;rw[<-g0]at c2;have g5:Hq (y1=y2->∀q,q<j+1->bx.getD q false=H.getD q false):=Hd λe q g=>by
    rcases X9 q j with h|h
    . exact HQ.o q h
    ·obtain rfl:q=j:=by omega
     rw[<-g1,<-g0,e]
   have g6:Hq (y1≠y2->bx≠H):=Hd λg8 e=>g8 (by rw[g1,g0,e])
   clear g1 g0;go_upto_region 6 with fail;refine AJ (λW:Wd=>W.cell? (Aw b1 (Z+j))=some (.bool y1)/\W.cell? (Aw b2 (Y+j))=some (.bool y2)) false 9
    [(0,false),(1,false),(2,false),(3,false),(4,false),(5,false),(6,false),(7,false),(8,false)] (by kernel_rfl) (by kernel_rfl) ⟨c1,c2⟩ ?_
   simp only[planned,AI]
   iterate 9
    refine A0 rfl ?_;apply Exists.intro;refine⟨λw' f=>?_,?_⟩
    . obtain⟨h1,h2⟩:=f;go_simp;rfl
    simp only[Ab]
   refine B6 ?_;clear c1 c2;cases y1<;>cases y2
   ·have g3:=Hd (g5.o rfl);go_wp2;go_roundw
    case rel=>exact⟨j+1,by omega,by go_num,g2,g3⟩
    case measure=>simp[intOf];omega
   . have O:Hq (Ending.returned (.bool false)=.returned (.bool (decide (bx=H)))):=Hd (by rw[XW (g6.o (by simp))]);go_wp2;go_ret;exact⟨O.o,g2.o⟩
   . have O:Hq (Ending.returned (.bool false)=.returned (.bool (decide (bx=H)))):=Hd (by rw[XW (g6.o (by simp))]);go_wp2;go_ret;exact⟨O.o,g2.o⟩
   ·have g3:=Hd (g5.o rfl);go_wp2;go_roundw
    case rel=>exact⟨j+1,by omega,by go_num,g2,g3⟩
    case measure=>simp[intOf];omega
  ·have O:Hq (Ending.returned (.bool true)=.returned (.bool (decide (bx=H)))):=Hd (by
    rw[XQ];refine Ym g7.o.symm λi h1 h2=>?_
    have:=HQ.o i (by have:=b.o;omega);simpa [List.getD,h1,h2]using this)
   have g9:¬ (j:Int)<(L:Int):=by omega
   go_wp2;go_ret;exact⟨O.o,U.o⟩
def cofF (F:BF)(v:Nat)(b:Bool):BF:=fun ρ=>F λu=>if u=v then b else ρ u
def Nl {u v:Nat}(hu:u<v):bitB (2^v*x+r) u=bitB r u:=by
 obtain⟨k,rfl⟩:∃k,v=u+(k+1):=⟨v-u-1,by omega⟩;unfold bitB;have e1:(2:Nat)^(u+(k+1))*x=2^u*(2*(2^k*x)):=by rw[Zr,XJ];ac_rfl
 rw[e1,Nat.mul_add_div (Yg (by omega)),Nat.mul_add_mod]
def Nm {v:Nat}(H:r<2^v)(I:c<2):bitB (2^v*(2*q+c)+r) v=decide (c=1):=by
 unfold bitB;rw[Nat.mul_add_div (Yg (by omega)),Y0 H,Zh,Nat.mul_add_mod,aT I]
abbrev Zb:=@Nat.div_div_eq_div_mul
def Nn {u v:Nat}(H:r<2^v)(O:c<2)(hu:v<u):bitB (2^v*(2*q+c)+r) u=decide (q/2^(u-v-1)%2=1):=by
 obtain⟨k,rfl⟩:∃k,u=v+(k+1):=⟨u-v-1,by omega⟩;unfold bitB;have e1:(2:Nat)^(v+(k+1))=2^v*(2*2^k):=by rw[Zr,XJ];ac_rfl
 have e2:v+(k+1)-v-1=k:=by omega
 rw[e1,e2,<-Zb,Nat.mul_add_div (Yg (by omega)),Y0 H,Zh,<-Zb];have I:(2*q+c)/2=q:=by omega
 rw[I]
def cofI (j v:Nat)(b:Bool):Nat:=if bitB j v && !b then j-2^v else if !bitB j v&&b then j+2^v else j
def Ub (j v:Nat):∃q c r,r<2^v/\c<2/\j=2^v*(2*q+c)+r:=by
 have h:=Nat.div_add_mod j (2^v);refine⟨j/2^v/2,j/2^v%2,j%2^v,Nat.mod_lt _ (Yg (by omega)),by omega,?_⟩;have e:2*(j/2^v/2)+j/2^v%2=j/2^v:=by omega
 rw[e];exact h.symm
abbrev ZB:=@Nat.mul_add
def No (j v:Nat)(b:Bool):∀u,bitB (cofI j v b) u=if u=v then b else bitB j u:=by
 obtain⟨q,c,r,H,O,rfl⟩:=Ub j v;have g1:=Nm (q:=q) H O;have key:∃I:Nat,I<2/\decide (I=1)=b/\cofI (2^v*(2*q+c)+r) v b=2^v*(2*q+I)+r:=by
  unfold cofI;rw[g1];have h2:2^v*(2*q+1)=2^v*(2*q+0)+2^v:=by simp[ZB]
  rcases(by omega:c=0\/c=1)with rfl|rfl
  ·cases b with
   | false=>exact⟨0,by omega,rfl,by simp⟩
   | true=>exact⟨1,by omega,rfl,by simp only[Nat.zero_ne_one,decide_false,Bool.not_true,Bool.and_self,Bool.not_false,ZF,if_false,Y1];omega⟩
  ·cases b with
   | true=>exact⟨1,by omega,rfl,by simp⟩
   | false=>exact⟨0,by omega,rfl,by simp only[decide_true,Bool.not_false,Bool.and_self,Y1];omega⟩
 obtain⟨I,g0,hb,e⟩:=key;intro u;rw[e];rcases Zx u v with h|rfl|h
 . rw[Xu (by omega),Nl h,Nl h]
 . rw[Xx rfl,Nm H g0,hb]
 . rw[Xu (by omega),Nn H g0 h,Nn H O h]
abbrev ZA:=@decide_eq_false_iff_not
abbrev aN:=@Nat.mul_comm
def Uc (h:∀u,n<=u->bitB i u=false):i<2^n:=by
 rcases X9 i (2^n)with H|H
 . exact H
 ·exfalso;have O:∀k,i/2^n≠0->(∀u,n<=u->bitB i u=false)->i/2^n<2^k->False:=by
   intro k
   induction k with
   | zero=>intro h1 _ h2;simp at h2;omega
   | succ k I=>
     intro h1 h2 h3;refine I h1 h2 ?_;have hb:=h2 (n+k) (by omega);unfold bitB at hb;rw[ZA]at hb;have e:i/2^(n+k)=i/2^n/2^k:=by rw[Zr,Zb]
     rw[e]at hb;have Y:i/2^n/2^k<2:=by
      rw[Nat.div_lt_iff_lt_mul (Yg (by omega))];rw[XJ,aN]at h3;exact h3
     have U:i/2^n/2^k=0:=by
      generalize i/2^n/2^k=X at hb Y
      omega
     exact(Nat.div_eq_zero_iff_lt (Yg (by omega))).1 U
  have h0:i/2^n≠0:=by
   intro e;have:=(Nat.div_eq_zero_iff_lt (Yg (by omega))).1 e;omega
  exact O (i/2^n) h0 h (Nat.lt_two_pow_self)
def Np {v:Nat}{b:Bool}(H:j<2^n)(I:v<n):cofI j v b<2^n:=by
 refine Uc λu hu=>?_
 rw[No,Xu (by omega)];unfold bitB;rw[ZA,Y0 (X5 H (X8 (by omega) hu))];omega
def Ud {v:Nat}{b:Bool}(I:j<2^n)(H:v<n):(tabB n F).getD (cofI j v b) false=cofF F v b (A4 (AE j n)):=by
 rw[EW (Np I H)];unfold cofF;congr 1;funext u;rw[FG,No,FG]
 by_cases e:u=v
 . subst e;simp[H]
 . rw[Xu e,Xu e]
def Nq (n:Nat)(F:BF)(v:Nat)(b:Bool)(s:n<=16)(a:v<n)(au:Option Addr)(cu:Nat)(w:Wd)(h1:AM w au (tabB n F)):
 Cl 23 #[.slice au (2^n) cu,Iv v,.bool b] w λx w'=>∃g,x=.returned (.slice (some (Av g)) (2^n) (2^n))/\Ay w' (.slice (some (Av g)) (2^n) (2^n)) (tabB n (cofF F v b))/\Bw w w':=by
 have q:=Hd h1;have ge:2^n<=1000000:=FJ s;have D:2^v<=1000000:=FJ (by omega);have z:Hq (∀i,i<=1048576->∀W,Cl 52 #[Iv (i:Nat),Iv (v:Nat)] W (Sm (.bool (bitB i v)) W)):=Hd λi hi W=>J9 i v hi (by omega) W
 obtain⟨G,Z⟩:=Ex (λi=>cofF F v b (A4 (AE i n)):Nat->Bool)
 have m:Hq (tabB n (cofF F v b)=(List.range (2^n)).map G):=Hd (by rw[Z];rfl);have e:Hq (∀j,j<2^n->cofI j v b<2^n/\(tabB n F).getD (cofI j v b) false=G j):=Hd λj I=>⟨Np I a,by rw[Z];exact Ud I a⟩
 have gf:Hq ((tabB n F).length=2^n):=Hd (BU n F);rw[m.o];obtain⟨L,c⟩:=Ex (2^n);obtain⟨p,O⟩:=Ex (2^v);have d:Hq (∀W,Cl 64 #[Iv (v:Nat)] W (Sm (Iv (p:Nat)) W)):=Hd λW=>by rw[O];exact J8 v (by omega) W
 have HCI:Hq (∀j,cofI j v b=if bitB j v && !b then j-p else if !bitB j v&&b then j+p else j):=Hd λj=>by rw[O];rfl
 have u:Hq (∀j,bitB j v=true->p<=j):=Hd λj I=>by
  rcases X9 j p with h|h
  . unfold bitB at I;rw[<-O,Y0 h]at I;simp at I
  . exact h
 rw[<-c]at ge e gf⊢;rw[<-O]at D;clear c O h1 Z m
 go_enter func23,ntmps23
 go_wp2_with (at_make;refine C7 C6 rfl _ _ rfl w.heap.size w _ L rfl rfl rfl (by omega) (Xs _) (X7 _ _) ?_;intro g w1 g6 f hs1 g1 A B;clear B)
 go_loopw [8,9] (λU J wr=>∃j:Nat,j<=L/\U=Iv j/\Hq (OwnB wr w.heap.size (.slice (some (Av g)) L L) (((List.range L).map G).take j++(List.replicate L false).drop j))/\Hq (Bw w wr)) (λU _ _=>L-(intOf U).toNat)
 case atStart=>exact⟨0,by omega,rfl,Hd (by unfold OwnB;simpa [AA]using g6),Hd f⟩
 case round=>
  clear g6 f;obtain⟨j,I,rfl,g3,g5⟩:=hrel
  by_cases l:j<L
  ·have gk:j<((List.range L).map G).length:=by simp;exact l
   obtain⟨k,g9⟩:=e.o j l;have g0:=HCI.o j;have g4:=u.o j;obtain⟨H,gc⟩:=Ex (cofI j v b);rw[<-gc]at k g9 g0;obtain⟨b1,r,e1,c1⟩:=(q.o.below g5.o).cells H (by rw[gf.o];exact k);rw[g9]at c1;have K:=g3.o.cellB j (by simp;omega);have M:=g3.o.frozen j;subst e1;obtain⟨y,X⟩:=Ex (G j);rw[<-X]at c1;have go:Hq (((List.range L).map G)[j]=y):=Hd (by rw[X];simp);obtain⟨t,Y⟩:=Ex (bitB j v);rw[<-Y]at g0 g4;have g2:Hq (∀W,Cl 52 #[Iv (j:Nat),Iv (v:Nat)] W (Sm (.bool t) W)):=Hd λW=>by rw[Y];exact z.o j (by omega) W
   have N:(H:Int)<(L:Int):=by omega
   have g7:Hq (OwnB (wr.setCell (Aw g j) (.bool y)) w.heap.size (.slice (some (Av g)) L L) (((List.range L).map G).take (j+1)++(List.replicate L false).drop (j+1))):=Hd (by
    rw[<-MO (by simp;omega) gk go.o];exact g3.o.setB j y)
   have g8:Hq (Bw w (wr.setCell (Aw g j) (.bool y))):=Hd (g5.o.setCell A _);clear g9 X Y gc g3 q;cases t<;>cases b
   ·have g1:H=j:=by simpa using g0
    subst g1;clear g0 g4;go_wp2_with fail;refine(g2.o _).mono ?_;rintro x w2 ⟨rfl,rfl⟩;go_wp2_with fail;refine(g2.o _).mono ?_;rintro x w2 ⟨rfl,rfl⟩;go_wp2;go_roundw
    case rel=>exact⟨H+1,by omega,by go_num,g7,g8⟩
    case measure=>simp[intOf];omega
   ·have g1:H=j+p:=by simpa using g0
    have C:(j:Int)+(p:Int)=(H:Nat):=by omega
    clear g0 g4 g1;go_wp2_with fail;refine(g2.o _).mono ?_;rintro x w2 ⟨rfl,rfl⟩;go_wp2_with fail;refine(g2.o _).mono ?_;rintro x w2 ⟨rfl,rfl⟩;go_wp2_with fail;refine(d.o _).mono ?_;rintro x w2 ⟨rfl,rfl⟩;go_wp2;go_roundw
    case rel=>exact⟨j+1,by omega,by go_num,g7,g8⟩
    case measure=>simp[intOf];omega
   ·have g1:H=j-p:=by simpa using g0
    have:=g4 rfl;have C:(j:Int)-(p:Int)=(H:Nat):=by omega
    clear g0 g4 g1;go_wp2_with fail;refine(g2.o _).mono ?_;rintro x w2 ⟨rfl,rfl⟩;go_wp2_with fail;refine(d.o _).mono ?_;rintro x w2 ⟨rfl,rfl⟩;go_wp2_with fail;refine(g2.o _).mono ?_;rintro x w2 ⟨rfl,rfl⟩;go_wp2;go_roundw
    case rel=>exact⟨j+1,by omega,by go_num,g7,g8⟩
    case measure=>simp[intOf];omega
   ·have g1:H=j:=by simpa using g0
    subst g1;clear g0 g4;go_wp2_with fail;refine(g2.o _).mono ?_;rintro x w2 ⟨rfl,rfl⟩;go_wp2_with fail;refine(g2.o _).mono ?_;rintro x w2 ⟨rfl,rfl⟩;go_wp2;go_roundw
    case rel=>exact⟨H+1,by omega,by go_num,g7,g8⟩
    case measure=>simp[intOf];omega
  ·obtain rfl:j=L:=by omega
   have Q:((List.range j).map G).length=j:=by simp
   have E:Hq (Ay wr (.slice (some (Av g)) j j) ((List.range j).map G)):=Hd (by
    have h:=g3.o;rw[XK (by omega),YZ (by simp),Y5]at h;exact OwnC.boolsIs h (by simp;exact ge))
   go_wp2;go_ret;exact⟨g,rfl,E.o,g5.o⟩
def A5 (n:Nat)(F:BF)(v:Nat):Bool:= !decide (tabB n (cofF F v false)=tabB n (cofF F v true))
def JM (n:Nat)(F:BF)(v:Nat)(e:n<=16)(c:v<n)(au:Option Addr)(cu:Nat)(w:Wd)(h1:AM w au (tabB n F)):
 Cl 51 #[.slice au (2^n) cu,Iv v] w (Bl (.bool (A5 n F v)) w):=by
 have I:Hq (∀b W,Bw w W->Cl 23 #[.slice au (2^n) cu,Iv (v:Nat),.bool b] W λx w'=>∃g,x=.returned (.slice (some (Av g)) (2^n) (2^n))/\Ay w' (.slice (some (Av g)) (2^n) (2^n)) (tabB n (cofF F v b))/\Bw W w'):=
  Hd λb W hb=>Nq n F v b e c au cu W (h1.below hb)
 have g3:Hq (∀(H a2:Nat) W,Ay W (.slice (some (Av H)) (2^n) (2^n)) (tabB n (cofF F v false))->Ay W (.slice (some (Av a2)) (2^n) (2^n)) (tabB n (cofF F v true))->Cl 20 #[.slice (some (Av H)) (2^n) (2^n),.slice (some (Av a2)) (2^n) (2^n)] W (Bl (.bool (decide (tabB n (cofF F v false)=tabB n (cofF F v true)))) W)):=Hd λH a2 W a Z=>by
  obtain⟨b1,d1,e1,k1,_⟩:=a;obtain⟨b2,d2,e2,k2,_⟩:=Z;injection e1 with e1
  injection e2 with e2
  subst e1 e2;have:=Nk (tabB n (cofF F v false)) (tabB n (cofF F v true)) (by simp[BU]) _ _ (2^n) (2^n) W k1 k2;rw[BU]at this;exact this
 unfold A5;obtain⟨L,U⟩:=Ex (2^n);rw[<-U]at I g3⊢;obtain⟨d,O⟩:=Ex (decide (tabB n (cofF F v false)=tabB n (cofF F v true)));rw[<-O]at g3⊢;clear h1 U O
 go_enter func51,ntmps51
 go_wp2_with fail;refine(I.o false w (X7 _ _)).mono ?_;rintro x w1 ⟨g1,rfl,k1,g6⟩;have X:=Hd k1;have g4:=Hd g6;clear k1 g6;go_wp2_with fail;refine(I.o true w1 g4.o).mono ?_;rintro x w2 ⟨g2,rfl,k2,g0⟩;have Y:=Hd (g3.o g1 g2 w2 (X.o.below g0) k2);have HB2:=Hd (g4.o.trans (g0.mono g4.o.size));clear k2 g0 X;go_wp2_with fail;refine Y.o.mono ?_;rintro x f ⟨rfl,g5⟩;have g7:=Hd (HB2.o.trans (g5.mono HB2.o.size));clear g5 Y;go_wp2;go_ret;exact⟨rfl,g7.o⟩
def topR (n:Nat)(F:BF):List Nat->Int
 | []=>-1
 | v::l=>if A5 n F v then(v:Nat)else topR n F l
def Nr {n:Nat}{F:BF}:∀{l:List Nat},(∀v∈l,A5 n F v=false)->topR n F l= -1
 | [],_=>rfl
 | v::l,h=>by
   show(if A5 n F v then((v:Nat):Int)else topR n F l)= -1
   rw[h v (XX ..)];exact Nr λu hu=>h u (Ys _ hu)
def JN {n:Nat}{F:BF}:∀(l:List Nat) (k:Nat),k<l.length->A5 n F (l.getD k 0)=true->(∀j,j<k->A5 n F (l.getD j 0)=false)->topR n F l=(l.getD k 0:Nat)
 | [],k,hk,_,_=>by simp at hk
 | v::l,0,_,h,_=>by
   show(if A5 n F v then((v:Nat):Int)else topR n F l)=(v:Nat)
   have I:A5 n F v=true:=h;rw[I,Xx rfl]
 | v::l,k+1,hk,h,hj=>by
   show(if A5 n F v then((v:Nat):Int)else topR n F l)=_
   have h0:A5 n F v=false:=hj 0 (by omega);rw[h0];have:=JN l k (by simpa using hk) (by simpa using h) (λj H=>by simpa using hj (j+1) (by omega));simpa using this
section
def Ai.dep (h:Ai d V)(O:okE (Aa d) f):DepF d.vars.length (ef V f):=fun ρ ρ' I=>h.dag.indep _ f (Xs _) O ρ ρ' λv H _=>I v H
def JO (h:DepF n F)(v:Nat)(b:Bool):DepF n (cofF F v b):=fun ρ ρ' H=>h _ _ λu hu=>by
 show(if u=v then b else ρ u)=if u=v then b else ρ' u
 rw[H u hu]
def Bq (F:BF)(v:Nat)(b:Bool)(ρ:Nat->Bool):cofF F v b ρ=F (upd ρ v b):=rfl
def FK (h:DepF n F)(v:Nat):A5 n F v=true↔cofF F v false≠cofF F v true:=by
 unfold A5;rw[Bool.not_eq_true',ZA];exact⟨λh1 e=>h1 (by rw[e]),λh1 e=>h1 (JF (JO h v _) (JO h v _) e)⟩
def Ue (h:Ai d V){v:Nat}(H:okE (Aa d) f)(hl:levN d v<lvE d.vars.length (levN d) (Aa d) f):A5 d.vars.length (ef V f) v=false:=by
 rw[<-Bool.not_eq_true,FK (h.dep H)];intro g0;refine g0 ?_;funext ρ;rw[Bq,Bq,h.dag.indep_var H hl,h.dag.indep_var H hl]
def Ns (V:Nat->BF)(f:Nat)(ρ:Nat->Bool):ef V f ρ=(if f%2=0 then V (f/2) ρ else !V (f/2) ρ):=by
 unfold ef;split<;>simp_all
def JP (h:Ai d V){b:BN}(hb:Aa d (f/2)=some b):topR d.vars.length (ef V f) d.vars=(b.v:Nat)/\b.v<d.vars.length:=by
 have H:okE (Aa d) f:=.inr ⟨b,hb⟩;have g1:=h.dag.var _ _ hb;have g2:=h.dag.lt _ g1;have g3:lvE d.vars.length (levN d) (Aa d) f=levN d b.v:=by unfold lvE;rw[hb]
 refine⟨?_,g1⟩;have g0:=h.inv b.v g1;rw[JN d.vars (levN d b.v) g2 ?_ ?_,g0]
 ·rw[g0,FK (h.dep H)];intro O;have U:ef V b.hi=ef V b.lo:=by
   funext ρ;have h1:=h.dag.cofs hb ρ;have h2:ef V f (upd ρ b.v false)=ef V f (upd ρ b.v true):=congrFun O ρ;rw[Ns,Ns,h1.1,h1.2]at h2;split at h2
   . exact h2.symm
   . have:=Yf not h2;simpa using this.symm
  have:=h.dag.canon (h.dag.okHi _ _ hb) (h.dag.okLo _ _ hb) U;exact h.dag.ne _ _ hb this.symm
 . intro j I;have h1:=h.vlt j (by omega);exact Ue h H (by rw[g3,h1.2];exact I)
end
def Nt (h:0<=(Bg op).1):1<=op/\op<=10/\(Bg op).2<=64:=by
 unfold Bg at h⊢;split
 . rename_i h1;exact⟨by omega,by omega,by simp⟩
 ·split
  . rename_i h1;exact⟨by omega,by omega,by simp⟩
  ·split
   . rename_i h1;exact⟨by omega,by omega,by simp⟩
   ·split
    . rename_i h1;exact⟨by omega,by omega,by simp⟩
    ·split
     . rename_i h1;exact⟨by omega,by omega,by simp⟩
     . exfalso;revert h;simp_all
def Nu (f:Nat->Bool)(i:Nat):(List.range (i+1)).map f=(List.range i).map f++[f i]:=by simp[Zn]
def JQ (l:List Bool)(b:Bool):AA (l++[b])=AA l++[.bool b]:=by simp[AA]
def tmod2 (c:Nat):((c:Int).tmod 2 == 1)=decide (c%2=1):=by
 have e1:Int.tmod (c:Int) 2=((c%2:Nat):Int):=by rw[YI (by omega)];rfl
 rw[e1]
 by_cases h:c%2=1
 . rw[h];rfl
 ·have:((c%2:Nat):Int)≠1:=by omega
  rw[YR.2 this,XW h]
def JR (a b:Nat):(((a:Nat):Int) == (b:Int))=decide (a=b):=by
 by_cases h:a=b
 . subst h;simp
 ·have:(a:Int)≠b:=by omega
  rw[YR.2 this,XW h]
def Nv (ls:List Bool)(l:Option Addr)(cl:Nat):∀(e:ExT) (x:Value) (w:Wd),GI e->A6 w e x->AM w l ls ->
 Cl 98 #[x,.slice l ls.length cl] w (Bl (.bool (fnT e (A4 ls))) w)
 | .nil,x,w,hv,h,_=>by unfold A6 at h;exact h.elim
 | .mk op v n kid,x,w,hval,h,hls=>by
   unfold A6 at h;obtain⟨a,c,rfl,h2,h3,h4,J⟩:=h;obtain⟨v1,v2,v3,v4,v5,v6⟩:=hval;obtain⟨k1,k2,k3⟩:=Nt v1;have hn64:n<=64:=by omega
   have H5:=Hd J;have H6:=Hd v6;have N:=Hd hls;have gG:=hls.len;have O:Hq (fnT (ExT.mk op v n kid) (A4 ls)=if op=3 then A4 ls v.toNat else opB op n λi=>fnT (kid i) (A4 ls)):=Hd rfl;have IH:Hq (∀(i:Nat) (x:Value) (W:Wd),i<n->A6 W (kid i) x->AM W l ls->Cl 98 #[x,.slice l ls.length cl] W (Bl (.bool (fnT (kid i) (A4 ls))) W)):=
    Hd λi x W hi h1 h2=>Nv ls l cl (kid i) x W (H6.o i hi) h1 h2
   obtain⟨B,G⟩:=Ex (fnT (ExT.mk op v n kid) (A4 ls));obtain⟨f,s⟩:=Ex (λi=>fnT (kid i) (A4 ls):Nat->Bool)
   have gF:Hq (∀i,fnT (kid i) (A4 ls)=f i):=Hd λi=>by rw[s]
   rw[<-G]at O⊢;rw[<-s]at O;have gA:op=8\/op=9->n=2:=by rintro(rfl|rfl)<;>(simp[Bg]at v4 v5;omega)
   have gz:op=10->n=3:=by rintro rfl;simp[Bg]at v4 v5;omega
   have gH:op=4->n=1:=by rintro rfl;simp[Bg]at v4 v5;omega
   obtain⟨w1,d⟩:=Ex (w.alloc (.cells #[Iv op,Iv v,.slice a n c] 78));have HW1:Hq (_=w1):=Hd d.symm;have g5:Hq (Bw w w1):=by rw[d];exact Hd (Ag _ _)
   have g6:w1.heap[w.heap.size]?=some (.cells #[Iv op,Iv v,.slice a n c] 78 (0,0)):=by rw[d];exact Xv _ _
   have d0:w1.cell? (Av w.heap.size)=some (Iv op):=by rw[Xw _ _ 0 _ _ _ g6];rfl
   have d1:w1.cell? (Aw w.heap.size 1)=some (Iv v):=by rw[Xw _ _ 1 _ _ _ g6];rfl
   have d2:w1.cell? (Aw w.heap.size 2)=some (.slice a n c):=by rw[Xw _ _ 2 _ _ _ g6];rfl
   unfold okI at h2 h3;obtain⟨w2,q⟩:=Ex (w1.alloc (.cells #[] 4));have gC:Hq (_=w2):=Hd q.symm;have HB2:Hq (Bw w1 w2):=by rw[q];exact Hd (Ag _ _)
   have gf:Hq (OwnB w2 w1.heap.size (.slice (some (Av w1.heap.size)) 0 0) []):=by rw[q];exact Hd (D1 _ _ _ (Xs _))
   have hs1:w1.heap.size=w.heap.size+1:=by rw[d];simp
   rw[hs1]at gf;clear J d q g6 s G v1 v4 v5 v6 hls
   go_enter func98,ntmps98
   go_upto_region 1 with fail;rw[HW1.o];go_upto_region 3 with fail;rw[gC.o];have gx:w1.heap.size<=w2.heap.size:=HB2.o.size;have C:=Cq HB2.o d0;have A:=Cq HB2.o d1;have z:=Cq HB2.o d2;go_wp2
   go_loopw [5,6,7,8] (λs5 s6 r s8 wr=>∃i k:Nat,i<=n/\k<=i/\s5=Iv k/\r=Iv i/\Hq (k=cntT i f)/\Bw w1 wr/\OwnB wr w1.heap.size s6 ((List.range i).map f)/\w1.heap.size<=wr.heap.size) (λ_ _ r _ _=>n-(intOf r).toNat)
   case atStart=>exact⟨0,0,X0 _,Xs _,rfl,rfl,Hd rfl,HB2.o,by rw[hs1];exact gf.o,gx⟩
   case round=>
    obtain⟨i,k,hi,gI,rfl,rfl,Z,g2,g0,gw⟩:=hrel;have e0:=Cq g2 d0;have e1:=Cq g2 d1;have e2:=Cq g2 d2;have g3:=Hd g2;have gD:=Hd g0;clear g2 C A z
    by_cases gy:i<n
    ·clear g0;obtain⟨b,off,x0,x1,x2,rfl,Y,c1,c2,hx⟩:=H5.o i gy;have g4:=g5.o.trans (g3.o.mono g5.o.size);have q0:=Cq g4 Y;have p:=Cq g4 c1;have m:=Cq g4 c2;have HX:=Hd (hx.below g4);have gE:=Hd (N.o.below g4);have gB:(i:Int)<n:=by omega
     have L:Hq (∀y,f i=y->k+(if y then 1 else 0)=cntT (i+1) f):=Hd λy X=>by rw[<-X,Z.o];rfl
     clear Y c1 c2 hx g4;go_wp2_with fail;refine(IH.o i _ _ (by omega) HX.o gE.o).mono ?_;rintro y w3 ⟨rfl,Q⟩;have t:=Hd Q;clear Q;go_upto_region 7 with fail;rw[gF.o];obtain⟨y,X⟩:∃y,f i=y:=⟨_,rfl⟩;rw[X];have M:=Hd (L.o y X);have S:=Hd (gD.o.below t.o);have ge:w1.heap.size<=w3.heap.size:=Xz gw t.o.size;have gj:=Hd (g3.o.trans (t.o.mono g3.o.size));have go:Hq (AA ((List.range (i+1)).map f)=AA ((List.range i).map f)++[.bool y]):=Hd (by rw[Nu,JQ,X]);clear L X q0 p m e0 e1 e2;go_upto_region 8 with (at_builtin;refine Dh C6 _ rfl _ _ rfl w1.heap.size _ (AA ((List.range i).map f)) _ rfl rfl rfl rfl rfl (by exact S.o) (by simp[AA];omega) ge ?_;intro v4 w4 gc p m F E R)
     have K:=Hd (FF gj.o S.o p m F E R ge);have T:=Hd gc;have V:w1.heap.size<=w4.heap.size:=by omega
     clear gc p m F E R;cases y with
     | true=>
       go_wp2;go_roundw
       case rel=>exact⟨i+1,k+1,by omega,by omega,by go_num,by go_num,Hd M.o,K.o,by unfold OwnB;rw[go.o];exact T.o,V⟩
       case measure=>simp[intOf];omega
     | false=>
       go_wp2;go_roundw
       case rel=>exact⟨i+1,k,by omega,by omega,by go_num,by go_num,Hd M.o,K.o,by unfold OwnB;rw[go.o];exact T.o,V⟩
       case measure=>simp[intOf];omega
    ·have he:i=n:=by omega
     subst he;have gB:¬ (i:Int)<i:=by omega
     have I:Hq (∀b:Bool,b=B->Ending.returned (.bool b)=.returned (.bool B)/\Bw w wr):=Hd λb hb=>⟨by rw[hb],g5.o.trans (g3.o.mono g5.o.size)⟩
     have g1:0<i->∃g cap,u6=.slice (some (Av g)) i cap/\∀j,j<i->wr.cell? (Aw g j)=some (.bool (f j)):=by
      intro hp;obtain⟨g,cap,e,_⟩:=g0.shape (by simp[AA];omega);have e':u6=.slice (some (Av g)) i cap:=by rw[e];simp[AA]
      refine⟨g,cap,e',λj hj=>?_⟩;rw[e']at g0;have:=g0.cellB j (by simp;omega);rw[this];simp[List.getD,hj]
     clear g0;rcases(show op=1\/op=2\/op=3\/op=4\/op=5\/op=6\/op=7\/op=8\/op=9\/op=10 by omega)with rfl|rfl|rfl|rfl|rfl|rfl|rfl|rfl|rfl|rfl
     . go_wp2;go_ret;exact I.o _ (by rw[O.o];rfl)
     . go_wp2;go_ret;exact I.o _ (by rw[O.o];rfl)
     ·obtain⟨v5,v6⟩:=v2 rfl;obtain⟨u,rfl⟩:∃u:Nat,v=(u:Int):=⟨v.toNat,by omega⟩;have gt:Hq (B=A4 ls u):=Hd (by rw[O.o];rfl)
      by_cases hu:u<ls.length
      ·obtain⟨bl,ol,rfl,D⟩:=(N.o.below (g5.o.trans (g3.o.mono g5.o.size))).cells u hu;have gv:(u:Int)<ls.length:=by omega
       have g7:Hq (B=ls.getD u false):=gt;obtain⟨yy,gk⟩:=Ex (ls.getD u false);rw[<-gk]at D g7;clear gk;go_wp2;go_ret;exact I.o _ g7.o.symm
      ·have gv:¬ (u:Int)<ls.length:=by omega
       have g7:Hq (B=false):=Hd (by rw[gt.o];unfold A4;simp[List.getD,XC (show ls.length<=u by omega)]);go_wp2;go_ret;exact I.o _ g7.o.symm
     . have H:Hq (((k:Int) == 0)=B):=Hd (by rw[O.o,Z.o];exact JR _ 0);go_wp2;go_ret;exact I.o _ H.o
     . have H:Hq (((k:Int) == (i:Int))=B):=Hd (by rw[O.o,Z.o];exact JR _ i);go_wp2;go_ret;exact I.o _ H.o
     ·have H:Hq (decide (0<k)=B):=Hd (by
       rw[O.o,Z.o];rfl)
      go_wp2;go_ret;exact I.o _ H.o
     . have H:Hq (((k:Int).tmod 2 == 1)=B):=Hd (by rw[O.o,Z.o];exact tmod2 _);go_wp2;go_ret;exact I.o _ H.o
     ·have:=gA (.inl rfl);subst this;obtain⟨g,cap,rfl,U⟩:=g1 (by omega);have Y:=U 0 (by omega);have c1:=U 1 (by omega);have H:Hq ((!(f 0)||f 1)=B):=Hd (by rw[O.o];rfl);obtain⟨y0,g9⟩:∃y,y=f 0:=⟨_,rfl⟩;obtain⟨y1,g8⟩:∃y,y=f 1:=⟨_,rfl⟩;rw[<-g9]at Y H;rw[<-g8]at c1 H;clear g9 g8 U g1;cases y0 with
      | true=>
        go_wp2;go_ret;exact I.o _ H.o
      | false=>
        go_wp2;go_ret;exact I.o _ H.o
     ·have H:Hq (((k:Int) != 1)=B):=Hd (by
       rw[O.o,Z.o]
       show(!((cntT i f:Int) == ((1:Nat):Int)))=decide (cntT i f≠1)
       rw[JR]
       by_cases h:cntT i f=1<;>simp[h])
      go_wp2;go_ret;exact I.o _ H.o
     ·have:=gz rfl;subst this;obtain⟨g,cap,rfl,U⟩:=g1 (by omega);have Y:=U 0 (by omega);have c1:=U 1 (by omega);have c2:=U 2 (by omega);have H:Hq (iteB (f 0) (f 1) (f 2)=B):=Hd (by rw[O.o];rfl);obtain⟨y0,g9⟩:∃y,y=f 0:=⟨_,rfl⟩;obtain⟨y1,g8⟩:∃y,y=f 1:=⟨_,rfl⟩;obtain⟨y2,gl⟩:∃y,y=f 2:=⟨_,rfl⟩;rw[<-g9]at Y H;rw[<-g8]at c1 H;rw[<-gl]at c2 H;clear g9 g8 gl U g1;cases y0 with
      | true=>
        go_wp2;go_ret;exact I.o _ H.o
      | false=>
        go_wp2;go_ret;exact I.o _ H.o
section
def Uf {o:Oper}{r:List (Option Oper×Bool)}(H:Region.wanted o (yielded ops a.tmps)=true)
 (I:(execOp a.eval o).run P w=.ok (.value v) w') (O:S w') (h:AG P ops Q S last r (a.put o.dst v) w'):AG P ops Q S last ((some o,true)::r) a w:=by
 unfold AG;simp only[H,Y1,Oper.wp,I,Oper.upon];exact⟨.inr O,h⟩
def GN {o:Oper}{r:List (Option Oper×Bool)}{f:FuncId}{R:Value->Wd->Prop}(H:Region.wanted o (yielded ops a.tmps)=true)
 (I:(execOp a.eval o).run P w=.ok (.enter f args) w) (O:Calls P f args w λe w'=>∃v,e=.returned v/\S w'/\R v w')
 (h:∀v w',S w'->R v w'->AG P ops Q S last r (a.put o.dst v) w'):AG P ops Q S last ((some o,true)::r) a w:=by
 unfold AG;simp only[H,Y1,Oper.wp,I,Oper.upon];exact O.mono λe w' ⟨v,h1,h2,h3⟩=>by subst h1;exact⟨.inr h2,h v w' h2 h3⟩
end
def JS (mb:Nat)(b:Bool)(w:Wd):Cl 94 #[Pt mb,.bool b] w (Sm (Iv (if b then 1 else 0)) w):=by
 cases b with
 | true=>
   go_enter func94,ntmps94
   go_wp2;go_ret;exact⟨rfl,rfl⟩
 | false=>
   go_enter func94,ntmps94
   go_wp2;go_ret;exact⟨rfl,rfl⟩
def Ug {α:Type}{l:List α}(h:l.length=2):∃a b,l=[a,b]:=by
 match l,h with
 | [a,b],_=>exact⟨a,b,rfl⟩
def Uh {α:Type}{l:List α}(h:l.length=3):∃a b c,l=[a,b,c]:=by
 match l,h with
 | [a,b,c],_=>exact⟨a,b,c,rfl⟩
def Nw {f:Nat->Nat}(h:∀i,1<=f i):∀k,k<=sumN k f
 | 0=>X0 _
 | k+1=>by
   have:=Nw h k;have:=h k
   show k+1<=sumN k f+f k
   omega
section
variable {o:Own}
def Goes.refl {M:Nat}(h:SatE K n Od room w0 mb fs nx w o m V)(H:m.waits=[]/\m.d.pool.many<=M):Goes K n Od room w0 mb fs nx (NoW M) o w w:=⟨o,m,V,ChgX.of_below (X7 _ _) o NoB,H,h⟩
def Goes.after {Wt:List Ev->Int->Nat->Prop}(H:ChgX NoB o o' w w')(g:Goes K n Od room w0 mb fs nx Wt o' w' w''):Goes K n Od room w0 mb fs nx Wt o w w'':=by
 obtain⟨o2,m2,V2,h1,h2,h3⟩:=g;exact⟨o2,m2,V2,H.trans h1 (λ_ _ e=>e),h2,h3⟩
def Goes.cell {Wt:List Ev->Int->Nat->Prop}(g:Goes K n Od room w0 mb fs nx Wt o w w'){p:Addr}{v:Value}(H:w.cell? p=some v)(hb:o p.block=none):w'.cell? p=some v:=by
 obtain⟨o2,m2,V2,h1,h2,h3⟩:=g;exact h1.cell H hb (λe=>e)
def Goes.below0 {Wt:List Ev->Int->Nat->Prop}(g:Goes K n Od room w0 mb fs nx Wt o w w'):Bw w0 w':=by
 obtain⟨o2,m2,V2,h1,h2,h3⟩:=g;exact h3.chg.below0
structure BuiT (K:Law)(n:Nat)(Od:List Nat->Prop)(room:Nat)(w0:Wd)(mb:Nat)(fs:List (Int×BF))(nx:Int)(M:Nat)(o:Own)(w:Wd)(vl:Value)(ks:List Int)(W:Wd)(o':Own)(m':ManD)(V':Nat->BF):Prop where
 sat:SatE K n Od room w0 mb fs nx W o' m' V'
 waits:m'.waits=[]/\m'.d.pool.many<=M
 chg:ChgX NoB o o' w W
 l:LawL W o' w.heap.size vl ks
def BuiS (K:Law)(n:Nat)(Od:List Nat->Prop)(room:Nat)(w0:Wd)(mb:Nat)(fs:List (Int×BF))(nx:Int)(M:Nat)(o:Own)(w:Wd)(vl:Value)(ks:List Int)(W:Wd):Prop:=∃o' m' V',BuiT K n Od room w0 mb fs nx M o w vl ks W o' m' V'
section
variable {M:Nat}{vl':Value}
def BuiT.go (h:BuiT K n Od room w0 mb fs nx M o w vl ks W o' m' V'){M':Nat}(g:Goes K n Od room w0 mb fs' nx' (NoW M') o' W W'):BuiS K n Od room w0 mb fs' nx' M' o w vl ks W':=by
 obtain⟨o2,m2,V2,h1,h2,h3⟩:=g;exact⟨o2,m2,V2,h3,h2,h.chg.trans h1 (λ_ _ e=>e),h.l.chg h1⟩
def BuiT.refl (h:BuiT K n Od room w0 mb fs nx M o w vl ks W o' m' V'):Goes K n Od room w0 mb fs nx (NoW M) o' W W:=Goes.refl h.sat h.waits
def BuiS.below (h:BuiS K n Od room w0 mb fs nx M o w vl ks W)(hb:Bw W W'):BuiS K n Od room w0 mb fs nx M o w vl ks W':=by
 obtain⟨o',m',V',h⟩:=h;exact h.go (h.refl.below hb)
def BuiS.goes (h:BuiS K n Od room w0 mb fs nx M o w vl ks W):Goes K n Od room w0 mb fs nx (NoW M) o w W:=by
 obtain⟨o',m',V',h⟩:=h;exact⟨o',m',V',h.chg,h.waits,h.sat⟩
def BuiS.app {k:Int}(h:BuiT K n Od room w0 mb fs nx M o w vl ks W o' m' V')(H:OwnC 3 W' w.heap.size vl' (Ar ks++[Iv k]))(e1:W'.os=W.os)(e2:W'.tape=W.tape)(U:W'.output=W.output)(O:W.heap.size<=W'.heap.size)(hk:BG vl vl' W W')(hw0:w0.heap.size<=w.heap.size):
 BuiS K n Od room w0 mb fs nx M o w vl' (ks++[k]) W':=by
 have I:=GH e1 e2 U O hk;exact⟨o',m',V',h.sat.other I (λk _ hk=>⟨by have:=(h.l.own.lt k hk).1;omega,h.l.no k hk⟩),h.waits,h.chg.trans (ChgX.of_wr (C:=λk=>w.heap.size<=k) I o' (λk _ hk=>(h.l.own.lt k hk).1)) (λk hk e=>by omega),h.l.app h.sat.lt H hk⟩
def BuiS.cells (h:BuiS K n Od room w0 mb fs nx M o w vl ks W)(U:0<ks.length):∃g c,vl=.slice (some (Av g)) ks.length c/\∀j,j<ks.length->W.cell? (Aw g j)=some (Iv (at0 ks j)):=by
 obtain⟨o',m',V',h⟩:=h;obtain⟨g,c,e,_⟩:=h.l.own.shape (by simpa [Ar]using U);have O:vl=.slice (some (Av g)) ks.length c:=by rw[e];simp[Ar]
 refine⟨g,c,O,λj H=>?_⟩;have I:=h.l.own;rw[O]at I;rw[I.cell j (by simpa [Ar]using H)];simp[Ar,A8 H,H]
def BuiS.cellsN (h:BuiS K n Od room w0 mb fs nx M o w vl ks W)(hl:ks.length=i)(H:0<i):∃g c,vl=.slice (some (Av g)) i c/\∀j,j<i->W.cell? (Aw g j)=some (Iv (at0 ks j)):=by
 subst hl;exact h.cells H
end
def Cm (n s:Nat):Nat:=s*2^n-(2^n-1)
def GO (n:Nat){s:Nat}(h:1<=s):Cm n s+(2^n-1)=s*2^n:=by
 have:=XS (2^n) h;unfold Cm;omega
def Bk (n:Nat)(kid:Nat->ExT)(i:Nat):Nat:=sumN i λj=>Cm n (kid j).size
def Ny (n:Nat)(kid:Nat->ExT):∀i,Bk n kid i+i*(2^n-1)=(sumN i λi=>(kid i).size)*2^n
 | 0=>by simp[Bk,sumN]
 | i+1=>by
   have h1:=Ny n kid i;have h2:=GO n (kid i).size_pos
   show Bk n kid i+Cm n (kid i).size+(i+1)*(2^n-1)=((sumN i λi=>(kid i).size)+(kid i).size)*2^n
   rw[Y8,Y8];omega
structure BCtx (K:Law)(n:Nat)(Od:List Nat->Prop)(room:Nat)(w0:Wd)(mb:Nat)(fs:List (Int×BF))(nx:Int)(M:Nat)(w w1:Wd)(o:Own)(m:ManD)(V:Nat->BF)(op v:Int)(nk:Nat)(kid:Nat->ExT)(a:Option Addr)(c:Nat)(E:ExT)(Q:Ending->Wd->Prop):Prop where
 HKK:Hq (AC K)
 H5:Hq (∀k,k<nk->∃b off x0 x1 x2,a=some (Aw b off)/\w0.cell? (Aw b (off+k*3))=some x0/\w0.cell? (Aw b (off+k*3+1))=some x1/\w0.cell? (Aw b (off+k*3+2))=some x2/\A6 w0 (kid k) (.agg #[x0,x1,x2]))
 HKS:Hq (∀i,i<nk->(sumN i λi=>(kid i).size)+(kid i).size+1<=E.size)
 HSZ:Hq (E.size=1+sumN nk λi=>(kid i).size)
 HPOS:Hq (∀k,k<=sumN k λi=>(kid i).size)
 IH:Hq (∀(i:Nat) (x:Value) (fs':List (Int×BF)) (nx':Int) (W:Wd) (o':Own) (m':ManD) (V':Nat->BF) (M':Nat),i<nk->SatE K n Od room w0 mb fs' nx' W o' m' V'->m'.waits=[]/\m'.d.pool.many<=M'->B2 fs'->A6 w0 (kid i) x->nx'+3*(kid i).size<549755813000->M'+(kid i).size*2^n<=room ->
  Cl 42 #[Pt mb,x] W λy w'=>∃k:Int,y=.returned (.tuple #[Iv k,.bool true])/\k+3<=nx'+3*(kid i).size/\Goes K n Od room w0 mb (fs'++[(k,fnT (kid i))]) (k+1) (NoW (M'+Cm n (kid i).size)) o' W w')
 HW1:Hq (w.alloc (.cells #[Iv op,Iv v,.slice a nk c] 78)=w1)
 HG1:Hq (Goes K n Od room w0 mb fs nx (NoW M) o w1 w1)
 HSAT1:Hq (SatE K n Od room w0 mb fs nx w1 o m V)
 HWT:Hq (m.waits=[]/\m.d.pool.many<=M)
 HB2:Hq (B2 fs)
 HQ:Hq (∀(k:Int) F W M',F=fnT E->k+3<=nx+3*E.size->M'<=M+Cm n E.size->Goes K n Od room w0 mb (fs++[(k,F)]) (k+1) (NoW M') o w1 W->Q (.returned (.tuple #[Iv k,.bool true])) W)
 HMR:Hq (∀i,i<nk->M+(sumN i λi=>(kid i).size)*2^n+(kid i).size*2^n+2^n<=room)
 HCK:Hq (∀i,Bk n kid i+i*(2^n-1)=(sumN i λi=>(kid i).size)*2^n)
 HCI:Hq (∀i,Cm n (kid i).size+(2^n-1)=(kid i).size*2^n)
 HEP:Hq (E.size*2^n=2^n+(sumN nk λi=>(kid i).size)*2^n/\Cm n E.size+(2^n-1)=E.size*2^n)
 HME:Hq (M+E.size*2^n<=room)
 hn64:nk<=64
 hnx:nx+3*E.size<549755813000
 hE1:1<=E.size
 hs1:w1.heap.size=w.heap.size+1
 d0:w1.cell? (Av w.heap.size)=some (Iv op)
 d1:w1.cell? (Aw w.heap.size 1)=some (Iv v)
 d2:w1.cell? (Aw w.heap.size 2)=some (.slice a nk c)
 on:o w.heap.size=none
 hw0:w0.heap.size<=w1.heap.size
 hp2:0<2^n
 h2: -9223372036854775808<=op/\op<=9223372036854775807
 h3: -9223372036854775808<=v/\v<=9223372036854775807
def Ui {v:Int}{kid:Nat->ExT}{a:Option Addr}{E:ExT}{Q:Ending->Wd->Prop}{M:Nat}(H:BCtx K n Od room w0 mb fs nx M w w1 o m V op v nk kid a c E Q)(h1:op=1)(I:fnT E=λ_=>true):
 Cl 42 #[Pt mb,.agg #[Iv op,Iv v,.slice a nk c]] w Q:=by
 obtain⟨HKK,H5,HKS,HSZ,HPOS,IH,HW1,HG1,HSAT1,HWT,HB2,HQ,HMR,HCK,HCI,HEP,HME,hn64,hnx,hE1,hs1,d0,d1,d2,on,hw0,hp2,h2,h3⟩:=H;subst h1;have g2:=Hd (JS mb true w1);have g1:=Hd (GL HKK.o HG1.o (by omega) (k:=1) (F:=λ_=>true) HB2.o.one);have g0:Hq ((λ_=>true)=fnT E):=Hd I.symm;have g3:Hq (M<=M+Cm n E.size):=Hd (Nat.le_add_right _ _);clear IH
 go_enter func42,ntmps42
 go_upto_region 1 with fail;rw[HW1.o];go_wp2_with fail;refine g2.o.mono ?_;rintro y w' ⟨rfl,rfl⟩;go_wp2_with fail;refine g1.o.mono ?_;rintro y w2 ⟨rfl,g⟩;have O:=Hd (HQ.o nx _ w2 _ g0.o (by omega) g3.o g);clear g;go_wp2_with fail;exact O.o
def Uj {v:Int}{kid:Nat->ExT}{a:Option Addr}{E:ExT}{Q:Ending->Wd->Prop}{M:Nat}(H:BCtx K n Od room w0 mb fs nx M w w1 o m V op v nk kid a c E Q)(h1:op=2)(I:fnT E=λ_=>false):
 Cl 42 #[Pt mb,.agg #[Iv op,Iv v,.slice a nk c]] w Q:=by
 obtain⟨HKK,H5,HKS,HSZ,HPOS,IH,HW1,HG1,HSAT1,HWT,HB2,HQ,HMR,HCK,HCI,HEP,HME,hn64,hnx,hE1,hs1,d0,d1,d2,on,hw0,hp2,h2,h3⟩:=H;subst h1;have g2:=Hd (JS mb false w1);have g1:=Hd (GL HKK.o HG1.o (by omega) (k:=0) (F:=λ_=>false) HB2.o.zero);have g0:Hq ((λ_=>false)=fnT E):=Hd I.symm;have g3:Hq (M<=M+Cm n E.size):=Hd (Nat.le_add_right _ _);clear IH
 go_enter func42,ntmps42
 go_upto_region 1 with fail;rw[HW1.o];go_wp2_with fail;refine g2.o.mono ?_;rintro y w' ⟨rfl,rfl⟩;go_wp2_with fail;refine g1.o.mono ?_;rintro y w2 ⟨rfl,g⟩;have O:=Hd (HQ.o nx _ w2 _ g0.o (by omega) g3.o g);clear g;go_wp2_with fail;exact O.o
def Uk {v:Int}{kid:Nat->ExT}{a:Option Addr}{E:ExT}{Q:Ending->Wd->Prop}{M:Nat}(H:BCtx K n Od room w0 mb fs nx M w w1 o m V op v nk kid a c E Q){u:Nat}(hu:u<n)(h1:op=3)(I:v=u)(O:fnT E=varF u):
 Cl 42 #[Pt mb,.agg #[Iv op,Iv v,.slice a nk c]] w Q:=by
 obtain⟨HKK,H5,HKS,HSZ,HPOS,IH,HW1,HG1,HSAT1,HWT,HB2,HQ,HMR,HCK,HCI,HEP,HME,hn64,hnx,hE1,hs1,d0,d1,d2,on,hw0,hp2,h2,h3⟩:=H;subst I;subst h1;have g1:=Hd (Ua HKK.o HG1.o (by omega) (by have:=HEP.o;have:=HME.o;omega) hu);have g0:Hq (varF u=fnT E):=Hd O.symm;have g2:Hq (M+1<=M+Cm n E.size):=Hd (by have:=HEP.o;omega);clear IH
 go_enter func42,ntmps42
 go_upto_region 1 with fail;rw[HW1.o];go_wp2_with fail;refine g1.o.mono ?_;rintro y w2 ⟨rfl,g⟩;have U:=Hd (HQ.o nx _ w2 _ g0.o (by omega) g2.o g);clear g;go_wp2_with fail;exact U.o
end
section
variable {o:Own}
def Ul {v:Int}{kid:Nat->ExT}{a:Option Addr}{E:ExT}{Q:Ending->Wd->Prop}{M:Nat}(O:BCtx K n Od room w0 mb fs nx M w w1 o m V op v nk kid a c E Q)(h1:op=5\/op=6\/op=7)(D:fnT E=accT op kid nk):
 Cl 42 #[Pt mb,.agg #[Iv op,Iv v,.slice a nk c]] w Q:=by
 obtain⟨HKK,H5,HKS,HSZ,HPOS,IH,HW1,HG1,HSAT1,HWT,HB2,HQ,HMR,HCK,HCI,HEP,HME,hn64,hnx,hE1,hs1,d0,d1,d2,on,hw0,hp2,h2,h3⟩:=O;have h:5<=op/\op<=9:=by omega
 have f:Hq (accT op kid nk=fnT E):=Hd D.symm;have gc:=Hd (λb=>JS mb b w1)
 have g8:Hq (∀z:Int,z=(if op=5 then 1 else 0)->Cl 93 #[Pt mb,Iv z] w1 λx w''=>x=.returned (.tuple #[Iv nx,Iv 0])/\Goes K n Od room w0 mb (fs++[(nx,accT op kid 0)]) (nx+1) (NoW M) o w1 w''):=Hd (by
  rintro z rfl
  by_cases e:op=5
  . rw[Xx e,show accT op kid 0=λ_=>true by unfold accT;simp[e]];exact GL HKK.o HG1.o (by omega) HB2.o.one
  . rw[Xu e,show accT op kid 0=λ_=>false by unfold accT;simp[e]];exact GL HKK.o HG1.o (by omega) HB2.o.zero)
 obtain⟨A,Z⟩:=Ex (accT op kid:Nat->BF);have F:Hq (∀i,DV op (A i) (fnT (kid i))=A (i+1)):=Hd λi=>by rw[Z];rfl
 rw[<-Z]at g8 f;clear Z;rcases h1 with h1|h1|h1
 all_goals
  subst h1
  go_enter func42,ntmps42
  go_upto_region 1 with fail;rw[HW1.o];go_wp2_with fail;refine(gc.o _).mono ?_;rintro y w' ⟨rfl,rfl⟩;go_wp2_with fail;refine(g8.o _ (by rfl)).mono ?_;rintro y w2 ⟨rfl,g⟩;have G:=Hd g;clear g gc g8;go_wp2
  go_loopw [10,12,13,14] (λY X H t wr=>∃(i:Nat) (k:Int),i<=nk/\Y=Iv k/\X=.bool true/\H=Iv i/\Hq (k+3<=nx+3*((1+sumN i λi=>(kid i).size:Nat):Int))/\Hq (Goes K n Od room w0 mb (fs++[(k,A i)]) (k+1) (NoW (M+(sumN i λi=>(kid i).size)*2^n)) o w1 wr)) (λ_ _ H _ _=>nk-(intOf H).toNat)
  case atStart=>exact⟨0,nx,X0 _,rfl,rfl,rfl,Hd (by show nx+3<=nx+3*((1+0:Nat):Int);omega),Hd (G.o.more (Nat.le_add_right _ _))⟩
  case round=>
   obtain⟨i,k,hi,rfl,rfl,rfl,l,U⟩:=hrel;have e0:=U.o.cell (p:=Av w.heap.size) d0 on;have e2:=U.o.cell (p:=Aw w.heap.size 2) d2 on
   by_cases g0:i<nk
   ·obtain⟨b,off,S,R,N,rfl,j,c1,c2,hx⟩:=H5.o i g0;have g1:=U.o.below0;have C:=Cq g1 j;have B:=Cq g1 c1;have u:=Cq g1 c2;have ge:(i:Int)<nk:=by omega
    have gk:=HKS.o i g0;obtain⟨o1,m1,V1,g9,g5,g6⟩:=U.o;have gj:=l.o;have g2:=Hd (IH.o i _ (fs++[(k,A i)]) (k+1) _ o1 m1 V1 _ g0 g6 g5 (HB2.o.app _) hx (by omega) (by have:=HMR.o i g0;omega));have d:=Hd g9;clear g1 j c1 c2 hx g6 g5 g9;go_wp2_with fail;refine g2.o.mono ?_;rintro y s ⟨k2,rfl,T,g3⟩
    have g7:Hq (Goes K n Od room w0 mb (fs++[(k,A i),(k2,fnT (kid i))]) (k2+1) (NoW (M+(sumN i λi=>(kid i).size)*2^n+Cm n (kid i).size)) o w1 s):=Hd (by
     have:=g3.after d.o;rw[XF]at this;exact this)
    have f0:=g7.o.cell (p:=Av w.heap.size) d0 on;have q:=Hd (Nj HKK.o g7.o HB2.o (by omega) (by have:=HMR.o i g0;have:=HCI.o i;omega) h.1 h.2);clear g3 g2 d C B u e0 e2;go_wp2_with fail;refine q.o.mono ?_;rintro y r ⟨I,rfl,W,g4⟩
    have J:Hq (Goes K n Od room w0 mb (fs++[(I,A (i+1))]) (I+1) (NoW (M+(sumN (i+1) λi=>(kid i).size)*2^n)) o w1 r):=Hd (by
     rw[<-F.o i];refine g4.more ?_
     show _<=M+((sumN i λi=>(kid i).size)+(kid i).size)*2^n
     rw[Y8];have:=HCI.o i;omega)
    have gf:Hq (I+3<=nx+3*((1+sumN (i+1) λi=>(kid i).size:Nat):Int)):=Hd (by
     show I+3<=nx+3*((1+((sumN i λi=>(kid i).size)+(kid i).size):Nat):Int)
     omega)
    clear g4 q f0 g7;go_wp2;go_roundw
    case rel=>exact⟨i+1,I,by omega,rfl,rfl,by go_num,gf,J⟩
    case measure=>simp[intOf];omega
   ·obtain rfl:i=nk:=by omega
    have ge:¬ (i:Int)<i:=by omega
    have L:=Hd (HQ.o k _ _ _ f.o (by have:=l.o;have:=HSZ.o;omega) (by have:=HEP.o;omega) U.o);go_wp2_with fail;exact L.o
end
section
variable {o:Own}
abbrev XU:=@List.getElem_append_left
abbrev XV:=@List.getElem_append_right
def Um {v:Int}{kid:Nat->ExT}{a:Option Addr}{E:ExT}{Q:Ending->Wd->Prop}{M:Nat}(Z:BCtx K n Od room w0 mb fs nx M w w1 o m V op v nk kid a c E Q)(h1:op=4)(I:nk=1)(hF:fnT E=notF (fnT (kid 0))):
 Cl 42 #[Pt mb,.agg #[Iv op,Iv v,.slice a nk c]] w Q:=by
 obtain⟨HKK,H5,HKS,HSZ,HPOS,IH,HW1,HG1,HSAT1,HWT,HB2,HQ,HMR,HCK,HCI,HEP,HME,hn64,hnx,hE1,hs1,d0,d1,d2,on,hw0,hp2,h2,h3⟩:=Z;have g1:(op == 1)=false:=by simp;omega
 have g2:(op == 2)=false:=by simp;omega
 have g3:(op == 3)=false:=by simp;omega
 have g5:(op == 5)=false:=by simp;omega
 have g6:(op == 6)=false:=by simp;omega
 have g7:(op == 7)=false:=by simp;omega
 have g4:(op == 4)=true:=by simp;omega
 have gC:=Hd I;clear h1 I;obtain⟨w2,ge⟩:=Ex (w1.alloc (.cells #[] 3));have gB:Hq (_=w2):=Hd ge.symm;have g9:Bw w1 w2:=by rw[ge];exact Ag _ _
 have gl:Hq (BuiS K n Od room w0 mb (fs++[]) nx (M+Bk n kid 0) o w1 (.slice (some (Av (w.heap.size+1))) 0 0) (([]:List (Int×BF)).map Prod.fst) w2):=Hd ⟨o,m,V,by rw[Y5];exact HSAT1.o.below g9,HWT.o,Di g9 o,by rw[ge,<-hs1];exact D1 _ _ _ (Xs _),λk hk=>by cases hk;rw[<-hs1];exact HSAT1.o.lt.none (Xs _)⟩;have gm:=Hd g9;clear ge g9
 go_enter func42,ntmps42
 go_upto_region 1 with fail;rw[HW1.o];go_upto_region 23 with fail;rw[gB.o];have e2:=Cq gm.o d2;go_wp2
 go_loopw [15,106] (λB s106 wr=>∃(i:Nat) (hs:List (Int×BF)) (H:Int),i<=nk/\s106=Iv i/\hs.length=i/\H+2*i<=nx+3*((sumN i λi=>(kid i).size:Nat):Int)/\Hq (∀j (Y:j<hs.length),hs[j].2=fnT (kid j))/\Hq (BuiS K n Od room w0 mb (fs++hs) H (M+Bk n kid i) o w1 B (hs.map Prod.fst) wr)) (λ_ s106 _=>nk-(intOf s106).toNat)
 case atStart=>exact⟨0,[],nx,X0 _,rfl,rfl,by show nx+2*((0:Nat):Int)<=nx+3*((0:Nat):Int);omega,Hd (λj Y=>by simp at Y),gl⟩
 case round=>
  clear gl gm e2
  rename Wd=>wy
  obtain⟨i,hs,H,hi,rfl,gz,gH,N,g0⟩:=hrel
  by_cases q:i<nk
  ·obtain⟨b,off,x0,x1,x2,rfl,C,c1,c2,hx⟩:=H5.o i q;have f:=g0.o.goes.below0;have q0:=Cq f C;have q1:=Cq f c1;have q2:=Cq f c2;obtain⟨zo,u,A,x,z,rfl,rfl,rfl⟩:=hx.parts;have gy:(i:Int)<nk:=by omega
   have gJ:=HKS.o i q;obtain⟨O,s⟩:=Ex (wy.alloc (.cells #[Iv zo,Iv u,.slice A x z] 78));have gA:Hq (_=O):=Hd s.symm;have R:Bw wy O:=by rw[s];exact Ag _ _
   have g8:O.heap[wy.heap.size]?=some (.cells #[Iv zo,Iv u,.slice A x z] 78 (0,0)):=by rw[s];exact Xv _ _
   have p0:O.cell? (Av wy.heap.size)=some (Iv zo):=by rw[Xw _ _ 0 _ _ _ g8];rfl
   have p1:O.cell? (Aw wy.heap.size 1)=some (Iv u):=by rw[Xw _ _ 1 _ _ _ g8];rfl
   have p2:O.cell? (Aw wy.heap.size 2)=some (.slice A x z):=by rw[Xw _ _ 2 _ _ _ g8];rfl
   obtain⟨o1,m1,V1,bt⟩:=g0.o.below R;have gG:=HPOS.o i;have gj:=Hd (IH.o i _ (fs++hs) H O o1 m1 V1 _ q bt.sat bt.waits (HB2.o.app _) hx (by omega) (by have:=HMR.o i q;have:=HCK.o i;omega));have d:=Hd bt;clear f C c1 c2 hx bt s R g8 g0;go_upto_region 26 with fail;rw[gA.o];clear q0 q1 q2;go_wp2_with fail;refine gj.o.mono ?_;rintro y e ⟨k2,rfl,gK,gg⟩;have gk:=Hd (d.o.go (M':=M+Bk n kid (i+1)) (gg.more (Nat.le_of_eq (Zq _ _ _))));have gE:Hq (∀j (Y:j<(hs++[(k2,fnT (kid i))]).length),(hs++[(k2,fnT (kid i))])[j].2=fnT (kid j)):=Hd λj Y=>by
    rcases X9 j hs.length with h|h
    . rw[XU h];exact N.o j h
    ·have gx:j=i:=by simp at Y;omega
     subst gx;rw[XV (by omega)];simp
   clear gg gj d p0 p1 p2;obtain⟨o3,m3,V3,U⟩:=gk.o;have gv:w1.heap.size<=e.heap.size:=U.chg.size;have gc:=Hd U;clear U;go_upto_region 30 with (at_builtin;refine Dh GF _ rfl _ _ rfl w1.heap.size _ (Ar (hs.map Prod.fst)) _ rfl rfl rfl rfl rfl (by exact gc.o.l.own) (by simp[Ar];omega) gv ?_;intro v5 w5 gf L J G D W)
   have gw:Hq (BuiS K n Od room w0 mb (fs++(hs++[(k2,fnT (kid i))])) (k2+1) (M+Bk n kid (i+1)) o w1 v5 ((hs++[(k2,fnT (kid i))]).map Prod.fst) w5):=Hd (by
    have:=BuiS.app gc.o gf L J G D W hw0;rw[XF]at this;rw[XG];exact this)
   clear gf L J G D W gc gk;go_wp2;go_roundw
   case rel=>exact⟨i+1,hs++[(k2,fnT (kid i))],k2+1,by omega,by go_num,by simp;omega,by
    show k2+1+2*((i+1:Nat):Int)<=nx+3*(((sumN i λi=>(kid i).size)+(kid i).size:Nat):Int)
    omega,gE,gw⟩
   case measure=>simp[intOf];omega
  ·obtain rfl:i=nk:=by omega
   have gy:¬ (i:Int)<i:=by omega
   have f0:=g0.o.goes.cell (p:=Av w.heap.size) d0 on;have gu:=HSZ.o;have gF:H+2*i+3<=nx+3*E.size:=by omega
   have I:=gC.o;have gI:1<=i:=by omega
   clear gu H5 IH HSZ HKS HPOS;obtain⟨o1,m1,V1,bt⟩:=g0.o;have d:=Hd bt;clear bt;subst I;obtain⟨⟨X,t⟩,rfl⟩:=List.length_eq_one_iff.1 gz;obtain⟨g,cp,rfl,ga⟩:=g0.o.cellsN (i:=1) rfl (by omega);have C:wy.cell? (Av g)=some (Iv X):=ga 0 (by omega);have HF:Hq (notF t=fnT E):=Hd (by rw[hF,<-N.o 0 (by simp)];rfl);have HN:=Hd (Ni HKK.o d.o.refl (by omega) (k:=X) (F:=t) (by simp));clear ga;go_wp2_with fail;refine HN.o.mono ?_;rintro y e ⟨rfl,g3⟩;have gt:=Hd (d.o.go g3);obtain⟨g',cp',ev,S⟩:=gt.o.cellsN (i:=1) rfl (by omega);cases ev;have c3:e.cell? (Av g)=some (Iv X):=S 0 (by omega);have HD:=Hd (GM HKK.o (hs:=[(X,t)]) (r:=[(H,notF t)]) (by have:=gt.o.goes;rw[XF]at this;exact this) HB2.o (by omega) (by simp) (T:=e.alloc (.cells #[Iv X] 3)) rfl);clear g3 S HN;go_wp2_with fail;refine HD.o.mono ?_;rintro y w4 ⟨rfl,g4⟩;have gD:=Hd (HQ.o H _ w4 _ HF.o (by omega) (by have:=HEP.o;have:=HCK.o 1;omega) g4);clear g4 HD;go_wp2_with fail;exact gD.o
end
section
variable {o:Own}
def Un {v:Int}{kid:Nat->ExT}{a:Option Addr}{E:ExT}{Q:Ending->Wd->Prop}{M:Nat}(d:BCtx K n Od room w0 mb fs nx M w w1 o m V op v nk kid a c E Q)(h1:op=8\/op=9)(I:nk=2)(hF:fnT E=DV op (fnT (kid 0)) (fnT (kid 1))):
 Cl 42 #[Pt mb,.agg #[Iv op,Iv v,.slice a nk c]] w Q:=by
 obtain⟨HKK,H5,HKS,HSZ,HPOS,IH,HW1,HG1,HSAT1,HWT,HB2,HQ,HMR,HCK,HCI,HEP,HME,hn64,hnx,hE1,hs1,d0,d1,d2,on,hw0,hp2,h2,h3⟩:=d;have g1:(op == 1)=false:=by simp;omega
 have g2:(op == 2)=false:=by simp;omega
 have g3:(op == 3)=false:=by simp;omega
 have g5:(op == 5)=false:=by simp;omega
 have g6:(op == 6)=false:=by simp;omega
 have g7:(op == 7)=false:=by simp;omega
 have g4:(op == 4)=false:=by simp;omega
 have g10:(op == 10)=false:=by simp;omega
 have gB:=Hd I;have H1:=Hd h1;clear h1 I;obtain⟨w2,ge⟩:=Ex (w1.alloc (.cells #[] 3));have gA:Hq (_=w2):=Hd ge.symm;have t:Bw w1 w2:=by rw[ge];exact Ag _ _
 have gm:Hq (BuiS K n Od room w0 mb (fs++[]) nx (M+Bk n kid 0) o w1 (.slice (some (Av (w.heap.size+1))) 0 0) (([]:List (Int×BF)).map Prod.fst) w2):=Hd ⟨o,m,V,by rw[Y5];exact HSAT1.o.below t,HWT.o,Di t o,by rw[ge,<-hs1];exact D1 _ _ _ (Xs _),λk hk=>by cases hk;rw[<-hs1];exact HSAT1.o.lt.none (Xs _)⟩;have gn:=Hd t;clear ge t
 go_enter func42,ntmps42
 go_upto_region 1 with fail;rw[HW1.o];go_upto_region 23 with fail;rw[gA.o];have e2:=Cq gn.o d2;go_wp2
 go_loopw [15,106] (λG s106 wr=>∃(i:Nat) (hs:List (Int×BF)) (H:Int),i<=nk/\s106=Iv i/\hs.length=i/\H+2*i<=nx+3*((sumN i λi=>(kid i).size:Nat):Int)/\Hq (∀j (Z:j<hs.length),hs[j].2=fnT (kid j))/\Hq (BuiS K n Od room w0 mb (fs++hs) H (M+Bk n kid i) o w1 G (hs.map Prod.fst) wr)) (λ_ s106 _=>nk-(intOf s106).toNat)
 case atStart=>exact⟨0,[],nx,X0 _,rfl,rfl,by show nx+2*((0:Nat):Int)<=nx+3*((0:Nat):Int);omega,Hd (λj Z=>by simp at Z),gm⟩
 case round=>
  clear gm gn e2
  rename Wd=>wy
  obtain⟨i,hs,H,hi,rfl,gy,gG,gk,g9⟩:=hrel
  by_cases r:i<nk
  ·obtain⟨b,off,x0,x1,x2,rfl,z,c1,c2,hx⟩:=H5.o i r;have q:=g9.o.goes.below0;have q0:=Cq q z;have f:=Cq q c1;have U:=Cq q c2;obtain⟨zo,A,D,B,C,rfl,rfl,rfl⟩:=hx.parts;have gx:(i:Int)<nk:=by omega
   have gI:=HKS.o i r;obtain⟨O,s⟩:=Ex (wy.alloc (.cells #[Iv zo,Iv A,.slice D B C] 78));have gz:Hq (_=O):=Hd s.symm;have gr:Bw wy O:=by rw[s];exact Ag _ _
   have u:O.heap[wy.heap.size]?=some (.cells #[Iv zo,Iv A,.slice D B C] 78 (0,0)):=by rw[s];exact Xv _ _
   have p0:O.cell? (Av wy.heap.size)=some (Iv zo):=by rw[Xw _ _ 0 _ _ _ u];rfl
   have p1:O.cell? (Aw wy.heap.size 1)=some (Iv A):=by rw[Xw _ _ 1 _ _ _ u];rfl
   have p2:O.cell? (Aw wy.heap.size 2)=some (.slice D B C):=by rw[Xw _ _ 2 _ _ _ u];rfl
   obtain⟨o1,m1,V1,bt⟩:=g9.o.below gr;have gF:=HPOS.o i;have gj:=Hd (IH.o i _ (fs++hs) H O o1 m1 V1 _ r bt.sat bt.waits (HB2.o.app _) hx (by omega) (by have:=HMR.o i r;have:=HCK.o i;omega));have g8:=Hd bt;clear q z c1 c2 hx bt s gr u g9;go_upto_region 26 with fail;rw[gz.o];clear q0 f U;go_wp2_with fail;refine gj.o.mono ?_;rintro y F ⟨k2,rfl,gJ,gg⟩;have gl:=Hd (g8.o.go (M':=M+Bk n kid (i+1)) (gg.more (Nat.le_of_eq (Zq _ _ _))));have gD:Hq (∀j (Z:j<(hs++[(k2,fnT (kid i))]).length),(hs++[(k2,fnT (kid i))])[j].2=fnT (kid j)):=Hd λj Z=>by
    rcases X9 j hs.length with h|h
    . rw[XU h];exact gk.o j h
    ·have gw:j=i:=by simp at Z;omega
     subst gw;rw[XV (by omega)];simp
   clear gg gj g8 p0 p1 p2;obtain⟨o3,m3,V3,Y⟩:=gl.o;have gu:w1.heap.size<=F.heap.size:=Y.chg.size;have gc:=Hd Y;clear Y;go_upto_region 30 with (at_builtin;refine Dh GF _ rfl _ _ rfl w1.heap.size _ (Ar (hs.map Prod.fst)) _ rfl rfl rfl rfl rfl (by exact gc.o.l.own) (by simp[Ar];omega) gu ?_;intro v5 w5 gf r1 r2 r3 T gp)
   have gv:Hq (BuiS K n Od room w0 mb (fs++(hs++[(k2,fnT (kid i))])) (k2+1) (M+Bk n kid (i+1)) o w1 v5 ((hs++[(k2,fnT (kid i))]).map Prod.fst) w5):=Hd (by
    have:=BuiS.app gc.o gf r1 r2 r3 T gp hw0;rw[XF]at this;rw[XG];exact this)
   clear gf r1 r2 r3 T gp gc gl;go_wp2;go_roundw
   case rel=>exact⟨i+1,hs++[(k2,fnT (kid i))],k2+1,by omega,by go_num,by simp;omega,by
    show k2+1+2*((i+1:Nat):Int)<=nx+3*(((sumN i λi=>(kid i).size)+(kid i).size:Nat):Int)
    omega,gD,gv⟩
   case measure=>simp[intOf];omega
  ·obtain rfl:i=nk:=by omega
   have gx:¬ (i:Int)<i:=by omega
   have f0:=g9.o.goes.cell (p:=Av w.heap.size) d0 on;have gt:=HSZ.o;have gE:H+2*i+3<=nx+3*E.size:=by omega
   have I:=gB.o;have gH:1<=i:=by omega
   clear gt H5 IH HSZ HKS HPOS;obtain⟨o1,m1,V1,bt⟩:=g9.o;have g8:=Hd bt;clear bt;subst I;obtain⟨⟨J,S⟩,⟨X,N⟩,rfl⟩:=Ug gy;obtain⟨g,cp,rfl,g0⟩:=g9.o.cellsN (i:=2) rfl (by omega);have z:wy.cell? (Av g)=some (Iv J):=g0 0 (by omega);have c1:wy.cell? (Aw g 1)=some (Iv X):=g0 1 (by omega);have HF:Hq (DV op S N=fnT E):=Hd (by rw[hF,<-gk.o 0 (by simp),<-gk.o 1 (by simp)];rfl);have HJ:Hq (∀W,W=wy.drew->Cl 95 #[Pt mb,Iv op,Iv J,Iv X] W λx w''=>∃k:Int,x=.returned (.tuple #[Iv k,.bool true])/\k<=H+1/\Goes K n Od room w0 mb (fs++[(k,DV op S N)]) (k+1) (NoW (M+Bk n kid 2+(2^n-1))) o1 wy w''):=
    Hd λW hW=>by subst hW;exact Nj HKK.o (g8.o.refl.below (An wy 1)) HB2.o (by omega) (by have:=HEP.o;have:=HCK.o 2;have:=HME.o;omega) (by have:=H1.o;omega) (by have:=H1.o;omega)
   clear g0;go_upto_region 39 with fail;refine AJ (λW:Wd=>W.cell? (Av w.heap.size)=some (Iv op)/\W.cell? (Av g)=some (Iv J)/\W.cell? (Aw g 1)=some (Iv X)) false 14
    [(0,false),(1,false),(2,false),(3,false),(4,false),(5,false),(6,false),(7,false),(8,false),(9,true),(10,false),(11,false),(12,false),(13,false)] (by kernel_rfl) (by kernel_rfl) ⟨f0,z,c1⟩ ?_
   simp only[planned,AI]
   iterate 9
    refine A0 rfl ?_;apply Exists.intro;refine⟨λw' L=>?_,?_⟩
    . obtain⟨h1,h2,h3⟩:=L;go_simp;rfl
    simp only[Ab]
   refine B7 (R:=λv w'=>∃k:Int,v=.tuple #[Iv k,.bool true]/\k<=H+1/\Goes K n Od room w0 mb (fs++[(k,DV op S N)]) (k+1) (NoW (M+Bk n kid 2+(2^n-1))) o1 wy w') rfl (by go_simp) ((HJ.o _ rfl).mono (λe w' he=>?_)) ?_
   . obtain⟨k,rfl,f,U⟩:=he;have hb:=g8.o.go U;obtain⟨g',cp',ev,gq⟩:=hb.cellsN (i:=2) rfl (by omega);cases ev;exact⟨_,rfl,⟨hb.goes.cell (p:=Av w.heap.size) d0 on,gq 0 (by omega),gq 1 (by omega)⟩,k,rfl,f,U⟩
   rintro v F-⟨k,rfl,f,U⟩;have gC:=Hd (HQ.o k _ F _ HF.o (by omega) (by have:=HEP.o;have:=HCK.o 2;omega) (g8.o.go U).goes);clear U HJ;simp only[Ab]
   iterate 4
    refine A0 rfl ?_;apply Exists.intro;refine⟨λw' L=>?_,?_⟩
    . obtain⟨h1,h2,h3⟩:=L;go_simp;rfl
    simp only[Ab]
   refine B6 ?_;go_wp2_with fail;exact gC.o
end
section
variable {o:Own}
def Uo {v:Int}{kid:Nat->ExT}{a:Option Addr}{E:ExT}{Q:Ending->Wd->Prop}{M:Nat}(G:BCtx K n Od room w0 mb fs nx M w w1 o m V op v nk kid a c E Q)(h1:op=10)(f:nk=3)(hF:fnT E=Ba (fnT (kid 0)) (fnT (kid 1)) (fnT (kid 2))):
 Cl 42 #[Pt mb,.agg #[Iv op,Iv v,.slice a nk c]] w Q:=by
 obtain⟨HKK,H5,HKS,HSZ,HPOS,IH,HW1,HG1,HSAT1,HWT,HB2,HQ,HMR,HCK,HCI,HEP,HME,hn64,hnx,hE1,hs1,d0,d1,d2,on,hw0,hp2,h2,h3⟩:=G;have g1:(op == 1)=false:=by simp;omega
 have g2:(op == 2)=false:=by simp;omega
 have g3:(op == 3)=false:=by simp;omega
 have g5:(op == 5)=false:=by simp;omega
 have g6:(op == 6)=false:=by simp;omega
 have g7:(op == 7)=false:=by simp;omega
 have g4:(op == 4)=false:=by simp;omega
 have g10:(op == 10)=true:=by simp;omega
 have gD:=Hd f;clear h1 f;obtain⟨w2,gf⟩:=Ex (w1.alloc (.cells #[] 3));have gC:Hq (_=w2):=Hd gf.symm;have S:Bw w1 w2:=by rw[gf];exact Ag _ _
 have gp:Hq (BuiS K n Od room w0 mb (fs++[]) nx (M+Bk n kid 0) o w1 (.slice (some (Av (w.heap.size+1))) 0 0) (([]:List (Int×BF)).map Prod.fst) w2):=Hd ⟨o,m,V,by rw[Y5];exact HSAT1.o.below S,HWT.o,Di S o,by rw[gf,<-hs1];exact D1 _ _ _ (Xs _),λk hk=>by cases hk;rw[<-hs1];exact HSAT1.o.lt.none (Xs _)⟩;have gq:=Hd S;clear gf S
 go_enter func42,ntmps42
 go_upto_region 1 with fail;rw[HW1.o];go_upto_region 23 with fail;rw[gC.o];have e2:=Cq gq.o d2;go_wp2
 go_loopw [15,106] (λs15 s106 wr=>∃(i:Nat) (hs:List (Int×BF)) (H:Int),i<=nk/\s106=Iv i/\hs.length=i/\H+2*i<=nx+3*((sumN i λi=>(kid i).size:Nat):Int)/\Hq (∀j (F:j<hs.length),hs[j].2=fnT (kid j))/\Hq (BuiS K n Od room w0 mb (fs++hs) H (M+Bk n kid i) o w1 s15 (hs.map Prod.fst) wr)) (λ_ s106 _=>nk-(intOf s106).toNat)
 case atStart=>exact⟨0,[],nx,X0 _,rfl,rfl,by show nx+2*((0:Nat):Int)<=nx+3*((0:Nat):Int);omega,Hd (λj F=>by simp at F),gp⟩
 case round=>
  clear gp gq e2
  rename Wd=>wy
  obtain⟨i,hs,H,hi,rfl,gz,gI,gk,z⟩:=hrel
  by_cases N:i<nk
  ·obtain⟨b,off,x0,x1,x2,rfl,J,c1,c2,hx⟩:=H5.o i N;have L:=z.o.goes.below0;have q0:=Cq L J;have q1:=Cq L c1;have X:=Cq L c2;obtain⟨zo,zv,za,zn,zc,rfl,rfl,rfl⟩:=hx.parts;have gy:(i:Int)<nk:=by omega
   have gK:=HKS.o i N;obtain⟨u,ge⟩:=Ex (wy.alloc (.cells #[Iv zo,Iv zv,.slice za zn zc] 78));have gB:Hq (_=u):=Hd ge.symm;have gt:Bw wy u:=by rw[ge];exact Ag _ _
   have gc:u.heap[wy.heap.size]?=some (.cells #[Iv zo,Iv zv,.slice za zn zc] 78 (0,0)):=by rw[ge];exact Xv _ _
   have p0:u.cell? (Av wy.heap.size)=some (Iv zo):=by rw[Xw _ _ 0 _ _ _ gc];rfl
   have p1:u.cell? (Aw wy.heap.size 1)=some (Iv zv):=by rw[Xw _ _ 1 _ _ _ gc];rfl
   have p2:u.cell? (Aw wy.heap.size 2)=some (.slice za zn zc):=by rw[Xw _ _ 2 _ _ _ gc];rfl
   obtain⟨o1,m1,V1,bt⟩:=z.o.below gt;have gH:=HPOS.o i;have gl:=Hd (IH.o i _ (fs++hs) H u o1 m1 V1 _ N bt.sat bt.waits (HB2.o.app _) hx (by omega) (by have:=HMR.o i N;have:=HCK.o i;omega));have D:=Hd bt;clear L J c1 c2 hx bt ge gt gc z;go_upto_region 26 with fail;rw[gB.o];clear q0 q1 X;go_wp2_with fail;refine gl.o.mono ?_;rintro y U ⟨k2,rfl,gL,gg⟩;have gn:=Hd (D.o.go (M':=M+Bk n kid (i+1)) (gg.more (Nat.le_of_eq (Zq _ _ _))));have gF:Hq (∀j (F:j<(hs++[(k2,fnT (kid i))]).length),(hs++[(k2,fnT (kid i))])[j].2=fnT (kid j)):=Hd λj F=>by
    rcases X9 j hs.length with h|h
    . rw[XU h];exact gk.o j h
    ·have gx:j=i:=by simp at F;omega
     subst gx;rw[XV (by omega)];simp
   clear gg gl D p0 p1 p2;obtain⟨o3,m3,V3,Y⟩:=gn.o;have gv:w1.heap.size<=U.heap.size:=Y.chg.size;have g0:=Hd Y;clear Y;go_upto_region 30 with (at_builtin;refine Dh GF _ rfl _ _ rfl w1.heap.size _ (Ar (hs.map Prod.fst)) _ rfl rfl rfl rfl rfl (by exact g0.o.l.own) (by simp[Ar];omega) gv ?_;intro v5 w5 gh r1 r2 r3 r4 gr)
   have gw:Hq (BuiS K n Od room w0 mb (fs++(hs++[(k2,fnT (kid i))])) (k2+1) (M+Bk n kid (i+1)) o w1 v5 ((hs++[(k2,fnT (kid i))]).map Prod.fst) w5):=Hd (by
    have:=BuiS.app g0.o gh r1 r2 r3 r4 gr hw0;rw[XF]at this;rw[XG];exact this)
   clear gh r1 r2 r3 r4 gr g0 gn;go_wp2;go_roundw
   case rel=>exact⟨i+1,hs++[(k2,fnT (kid i))],k2+1,by omega,by go_num,by simp;omega,by
    show k2+1+2*((i+1:Nat):Int)<=nx+3*(((sumN i λi=>(kid i).size)+(kid i).size:Nat):Int)
    omega,gF,gw⟩
   case measure=>simp[intOf];omega
  ·obtain rfl:i=nk:=by omega
   have gy:¬ (i:Int)<i:=by omega
   have f0:=z.o.goes.cell (p:=Av w.heap.size) d0 on;have gu:=HSZ.o;have gG:H+2*i+3<=nx+3*E.size:=by omega
   have f:=gD.o;have gJ:1<=i:=by omega
   clear gu H5 IH HSZ HKS HPOS;obtain⟨o1,m1,V1,bt⟩:=z.o;have D:=Hd bt;clear bt;subst f;obtain⟨⟨d,t⟩,⟨O,s⟩,⟨I,q⟩,rfl⟩:=Uh gz;obtain⟨g,cp,rfl,g8⟩:=z.o.cellsN (i:=3) rfl (by omega);have J:wy.cell? (Av g)=some (Iv d):=g8 0 (by omega);have c1:wy.cell? (Aw g 1)=some (Iv O):=g8 1 (by omega);have c2:wy.cell? (Aw g 2)=some (Iv I):=g8 2 (by omega);have HF:Hq (Ba t s q=fnT E):=Hd (by rw[hF,<-gk.o 0 (by simp),<-gk.o 1 (by simp),<-gk.o 2 (by simp)];rfl);have HI:Hq (∀W,W=wy.drew->Cl 97 #[Pt mb,Iv d,Iv O,Iv I] W λx w''=>x=.returned (.tuple #[Iv H,Iv 0])/\Goes K n Od room w0 mb (fs++[(d,t),(O,s),(I,q)]++[(H,Ba t s q)]) (H+1) (NoW (M+Bk n kid 3+(2^n-1))) o1 wy w''):=
    Hd λW hW=>by subst hW;exact JL HKK.o (D.o.refl.below (An wy 1)) (by omega) (by have:=HEP.o;have:=HCK.o 3;have:=HME.o;omega) (by simp) (by simp) (by simp)
   clear g8;go_upto_region 36 with fail;refine AJ (λW:Wd=>W.cell? (Av g)=some (Iv d)/\W.cell? (Aw g 1)=some (Iv O)/\W.cell? (Aw g 2)=some (Iv I)) false 16
    [(0,false),(1,false),(2,false),(3,false),(4,false),(5,false),(6,false),(7,false),(8,false),(9,false),(10,true),(11,false),(12,false),(13,false),(14,false),(15,false)] (by kernel_rfl) (by kernel_rfl) ⟨J,c1,c2⟩ ?_
   simp only[planned,AI]
   iterate 10
    refine A0 rfl ?_;apply Exists.intro;refine⟨λw' Z=>?_,?_⟩
    . obtain⟨h1,h2,h3⟩:=Z;go_simp;rfl
    simp only[Ab]
   refine B7 (R:=λv w'=>v=.tuple #[Iv H,Iv 0]/\Goes K n Od room w0 mb (fs++[(d,t),(O,s),(I,q)]++[(H,Ba t s q)]) (H+1) (NoW (M+Bk n kid 3+(2^n-1))) o1 wy w') rfl (by go_simp) ((HI.o _ rfl).mono (λe w' he=>?_)) ?_
   . obtain⟨rfl,X⟩:=he;have hb:=D.o.go X;obtain⟨g',cp',ev,g9⟩:=hb.cellsN (i:=3) rfl (by omega);cases ev;exact⟨_,rfl,⟨g9 0 (by omega),g9 1 (by omega),g9 2 (by omega)⟩,rfl,X⟩
   rintro v U ⟨C,B,A⟩ ⟨rfl,X⟩;obtain⟨o3,m3,V3,Y⟩:=D.o.go X;have g0:=Hd Y;clear X HI Y J c1 c2 z;simp only[Ab]
   iterate 5
    refine A0 rfl ?_;apply Exists.intro;refine⟨λw' Z=>?_,?_⟩
    . obtain⟨h1,h2,h3⟩:=Z;go_simp;rfl
    simp only[Ab]
   refine B6 ?_;have HD:Hq (∀W T,Bw U W->T=W.alloc (.cells #[Iv d,Iv O,Iv I] 3)->Cl 74 #[Pt mb,.slice (some (Av W.heap.size)) 3 3] T λx w''=>x=.returned (Iv 0)/\Goes K n Od room w0 mb (fs++[(H,Ba t s q)]) (H+1) (NoW (M+Bk n kid 3+(2^n-1))) o3 U w''):=
    Hd λW T hW hT=>GM HKK.o (hs:=[(d,t),(O,s),(I,q)]) (r:=[(H,Ba t s q)]) (by have:=g0.o.refl;rw[XF]at this;exact this.below hW) HB2.o (by omega) (by simp) hT
   go_upto_region 37 with fail;refine AJ (λW:Wd=>W.cell? (Av g)=some (Iv d)/\W.cell? (Aw g 1)=some (Iv O)/\W.cell? (Aw g 2)=some (Iv I)) false 20
    [(0,false),(1,false),(2,false),(3,false),(4,false),(5,false),(6,false),(7,false),(8,false),(9,false),(10,false),(11,false),(12,false),(13,false),(14,true),(15,true),(16,false),(17,false),(18,false),(19,false)] (by kernel_rfl) (by kernel_rfl) ⟨C,B,A⟩ ?_
   simp only[planned,AI]
   iterate 4
    refine A0 rfl ?_;apply Exists.intro;refine⟨λw' Z=>?_,?_⟩
    . obtain⟨h1,h2,h3⟩:=Z;go_simp;rfl
    simp only[Ab]
   iterate 10
    refine Eh true (by go_simp) ?_;apply Exists.intro;refine⟨λgA w' Z=>?_,?_⟩
    . obtain⟨h1,h2,h3⟩:=Z;go_simp;rfl
    simp only[Ab]
   have gm:=Ag U.drew (.cells #[Iv d,Iv O,Iv I] 3);refine Uf (v:=.slice (some (Av U.heap.size)) 3 3) (w':=U.drew.alloc (.cells #[Iv d,Iv O,Iv I] 3)) (by go_simp) (by go_simp) ⟨(gm.cell (p:=Av g) (Ad (w:=U.drew) C)).trans C,(gm.cell (p:=Aw g 1) (Ad (w:=U.drew) B)).trans B,(gm.cell (p:=Aw g 2) (Ad (w:=U.drew) A)).trans A⟩ ?_;simp only[Ab];refine GN (R:=λv w'=>v=Iv 0/\Goes K n Od room w0 mb (fs++[(H,Ba t s q)]) (H+1) (NoW (M+Bk n kid 3+(2^n-1))) o3 U w') (by go_simp) (by go_simp) ((HD.o U.drew _ (An U 1) rfl).mono (λe w' he=>?_)) ?_
   . obtain⟨rfl,X⟩:=he;have hb:=g0.o.go X;obtain⟨g',cp',ev,g9⟩:=hb.cellsN (i:=3) rfl (by omega);cases ev;exact⟨_,rfl,⟨g9 0 (by omega),g9 1 (by omega),g9 2 (by omega)⟩,rfl,X⟩
   rintro v w4-⟨rfl,X⟩;have gE:=Hd (HQ.o H _ w4 _ HF.o (by omega) (by have:=HEP.o;have:=HCK.o 3;omega) (g0.o.go X).goes);clear X HD;simp only[Ab]
   iterate 1
    refine Eh true (by go_simp) ?_;apply Exists.intro;refine⟨λgA w' Z=>?_,?_⟩
    . obtain⟨h1,h2,h3⟩:=Z;go_simp;rfl
    simp only[Ab]
   iterate 3
    refine A0 rfl ?_;apply Exists.intro;refine⟨λw' Z=>?_,?_⟩
    . obtain⟨h1,h2,h3⟩:=Z;go_simp;rfl
    simp only[Ab]
   refine B6 ?_;go_wp2_with fail;exact gE.o
end
section
def Nz (U:AC K):∀(e:ExT) (x:Value) (fs:List (Int×BF)) (nx:Int) (w:Wd) (o:Own) (m:ManD) (V:Nat->BF) (M:Nat),SatE K n Od room w0 mb fs nx w o m V->m.waits=[]/\m.d.pool.many<=M->B2 fs->GI e->(∀v∈AP e,v<(n:Int))->A6 w0 e x->nx+3*e.size<549755813000->M+e.size*2^n<=room ->
 Cl 42 #[Pt mb,x] w λy w'=>∃k:Int,y=.returned (.tuple #[Iv k,.bool true])/\k+3<=nx+3*e.size/\Goes K n Od room w0 mb (fs++[(k,fnT e)]) (k+1) (NoW (M+Cm n e.size)) o w w'
 | .nil,x,fs,nx,w,o,m,V,M,_,_,_,hv,_,_,_,_=>hv.elim
 | .mk op v nk kid,x,fs,nx,w,o,m,V,M,hsat,hwt,hb2,hval,hvars,h,hnx,hroom=>by
   unfold A6 at h;obtain⟨a,c,rfl,h2,h3,s,q⟩:=h;obtain⟨v1,v2,v3,v4,v5,v6⟩:=hval;obtain⟨k1,k2,r⟩:=Nt v1;have H:(w.alloc (.cells #[Iv op,Iv v,.slice a nk c] 78)).heap[w.heap.size]?=some (.cells #[Iv op,Iv v,.slice a nk c] 78 (0,0)):=Xv _ _;have I:=Ag w (.cells #[Iv op,Iv v,.slice a nk c] 78);have O:(ExT.mk op v nk kid).size*2^n=2^n+(sumN nk λi=>(kid i).size)*2^n:=by
    show(1+sumN nk λi=>(kid i).size)*2^n=_
    rw[Y8,Nat.one_mul]
   have g0:BCtx K n Od room w0 mb fs nx M w (w.alloc (.cells #[Iv op,Iv v,.slice a nk c] 78)) o m V op v nk kid a c (ExT.mk op v nk kid) (λy w'=>∃k:Int,y=.returned (.tuple #[Iv k,.bool true])/\k+3<=nx+3*(ExT.mk op v nk kid).size/\Goes K n Od room w0 mb (fs++[(k,fnT (ExT.mk op v nk kid))]) (k+1) (NoW (M+Cm n (ExT.mk op v nk kid).size)) o w w'):=by
    refine⟨Hd U,Hd q,Hd λi hi=>?_,Hd rfl,Hd (Nw λi=>(kid i).size_pos),Hd λi x fs' nx' W o' m' V' M' hi l j b Z Y X=>Nz U (kid i) x fs' nx' W o' m' V' M' l j b (v6 i hi) (λu hu=>hvars u (by unfold AP;exact Zf _ (Nc hi hu))) Z Y X,Hd rfl,Hd (Goes.refl (hsat.below I) hwt),Hd (hsat.below I),Hd hwt,Hd hb2,Hd ?_,Hd λi hi=>?_,Hd (Ny n kid),Hd λi=>GO n (kid i).size_pos,Hd ⟨O,GO n (ExT.size_pos _)⟩,Hd hroom,by omega,hnx,ExT.size_pos _,by simp,by rw[Xw _ _ 0 _ _ _ H];rfl,by rw[Xw _ _ 1 _ _ _ H];rfl,by rw[Xw _ _ 2 _ _ _ H];rfl,hsat.lt.none (Xs _),?_,Yg (by omega),h2,h3⟩
    ·have:=E0 (f:=λi=>(kid i).size) hi
     show _<=1+sumN nk λi=>(kid i).size
     omega
    . rintro k F W M' rfl hk p g;exact⟨k,rfl,hk,(g.more p).after (Di I o)⟩
    . have h1:=E0 (f:=λi=>(kid i).size) hi;have h2:=XS (2^n) h1;rw[Y8]at h2;omega
    . have:=hsat.chg.size;simp;omega
   rcases(show op=1\/op=2\/op=3\/(op=5\/op=6\/op=7)\/op=4\/(op=8\/op=9)\/op=10 by omega)with h1|h1|h1|h1|h1|h1|h1
   . exact Ui g0 h1 (by subst h1;exact Nb (.inl rfl) v nk kid)
   . exact Uj g0 h1 (by subst h1;exact Nb (.inr rfl) v nk kid)
   . have e1:=v2 h1;have e2:=hvars v (by unfold AP;rw[Xx h1];simp);obtain⟨u,rfl⟩:∃u:Nat,v=u:=⟨v.toNat,by omega⟩;exact Uk g0 (u:=u) (by omega) h1 rfl (by subst h1;exact TJ u nk kid)
   . exact Ul g0 h1 (TE h1 v nk kid)
   ·have e:nk=1:=by subst h1;simp[Bg]at v4 v5;omega
    exact Um g0 h1 e (by subst h1;subst e;exact TG v kid)
   ·have e:nk=2:=by rcases h1 with rfl|rfl<;>(simp[Bg]at v4 v5;omega)
    exact Un g0 h1 e (by subst e;exact TI h1 v kid)
   ·have e:nk=3:=by subst h1;simp[Bg]at v4 v5;omega
    exact Uo g0 h1 e (by subst h1;subst e;exact TH v kid)
end
def Aj.chgX {o:Own}{a:Option Addr}(h:Aj w a zs)(I:ChgX C o o' w w')(H:0<zs.length->∀x,a=some x->o x.block=none/\¬ C x.block):Aj w' a zs:=
 ⟨h.len,λk hk=>by
  obtain⟨b,off,rfl,c⟩:=h.cells k hk;have:=H (by omega) _ rfl;exact⟨b,off,rfl,I.cell c this.1 this.2⟩⟩
def ArrI (K:Law)(n room:Nat)(w0:Wd)(mb:Nat)(fs:List (Int×BF))(nx:Int)(o:Own)(w:Wd)(m:ManD)(P:List Nat->Prop)(W:Wd):Prop:=
 ∃o' m' V',SatE K n P room w0 mb fs nx W o' m' V'/\m'.waits=m.waits/\m'.calls=m.calls/\ChgX NoB o o' w W/\(m'.d.pool.many<=m.d.pool.many\/m'.d.pool.many<=fs.length*2^n)
section
variable {o:Own}{P:List Nat->Prop}
def ArrI.below (h:ArrI K n room w0 mb fs nx o w m P W)(hb:Bw W W'):ArrI K n room w0 mb fs nx o w m P W':=by
 obtain⟨o',m',V',h1,h2,h3,I,H⟩:=h;exact⟨o',m',V',h1.below hb,h2,h3,I.trans (Di hb o') (λ_ _ e=>e),H⟩
def ArrI.imp (h:ArrI K n room w0 mb fs nx o w m P W){H:List Nat->Prop}(I:∀l,l.length=n->P l->H l):ArrI K n room w0 mb fs nx o w m H W:=by
 obtain⟨o',m',V',h1,h2,h3,U,O⟩:=h;exact⟨o',m',V',h1.withOd (I _ h1.vars h1.od),h2,h3,U,O⟩
def ArrI.swap (h:ArrI K n room w0 mb fs nx o w m P W)(H:k+1<n)(U:nx<=549755813888)(O:3*(fs.length*2^n)<=room){I:List Nat->Prop}(X:∀l,l.length=n->P l->I (exL l k)):
 Cl 92 #[Pt mb,Iv k] W λe w'=>e=.returned (Iv 0)/\ArrI K n room w0 mb fs nx o w m I w':=by
 obtain⟨o',m',V',h1,h2,h3,Y,Z⟩:=h;refine(Tp h1 H U O).mono ?_;rintro e w' ⟨rfl,o2,m2,V2,s⟩;refine⟨rfl,o2,m2,V2,s.sat.withOd ?_,s.waits.trans h2,s.calls.trans h3,Y.trans (ChgX.of_chg s.chg NoB) (λ_ _ e=>e),.inr (s.sat.few s.dead)⟩;rw[s.sat.od,TQ];exact X _ h1.vars h1.od
def Up (h:SatE K n Od room w0 mb fs nx w o m V)(N:nx<=549755813888)(L:3*(fs.length*2^n)<=room){a:Option Addr}(A:Aj w a zs)(b:0<zs.length->∀x,a=some x->o x.block=none)(M:zs.length=0\/JG zs n):
 Cl 41 #[Pt mb,.slice a zs.length c] w λx w'=>x=.returned (.bool true)/\ArrI K n room w0 mb fs nx o w m (λl=>∀j,j<zs.length->((l.getD j 0:Nat):Int)=at0 zs j) w':=by
 have gH:=A.len;have hn64:n<=64:=by have:=h.ok.store.small;rw[h.vars]at this;exact this
 have HZ:Hq (∀W P,ArrI K n room w0 mb fs nx o w m P W->Aj W a zs):=Hd λW P ⟨o',m',V',_,_,_,E,_⟩=>A.chgX E λh0 x hx=>⟨b h0 x hx,λe=>e⟩
 have gd:Hq (∀W P,ArrI K n room w0 mb fs nx o w m P W->Cl 21 #[Pt mb] W λx w'=>∃(a:Option Addr) (c:Nat) (l:List Nat),x=.returned (.slice a n c)/\l.length=n/\Aj w' a (l.map Int.ofNat)/\P l/\(∀v,v<n->∃i,i<n/\l.getD i 0=v)/\(∀i j,i<n->j<n->l.getD i 0=l.getD j 0->i=j)/\Bw W w'/\ArrI K n room w0 mb fs nx o w m (λH=>H=l) w'):=by
  refine Hd λW P D=>?_
  obtain⟨o',m',V',h1,h2,h3,E,h5⟩:=D;refine(LG h1.is h1.lt (by rw[h1.vars];exact hn64)).mono ?_;rintro x w' ⟨v,rfl,C,hb⟩;obtain⟨av,cv,rfl,gr,_⟩:=C.sliceIs (by simp[h1.vars];omega);refine⟨av,cv,m'.d.vars,by rw[XT,h1.vars],h1.vars,gr,h1.od,λv C=>?_,λi j hi f e=>?_,hb,o',m',V',(h1.below hb).withOd rfl,h2,h3,E.trans (Di hb o') (λ_ _ e=>e),h5⟩
  . have:=h1.ok.store.mem (v:=v) (by rw[h1.vars];exact C);rw[h1.vars]at this;exact this
  . exact h1.ok.store.inj (by rw[h1.vars];exact hi) (by rw[h1.vars];exact f) e
 have gi:Hq (∀W P,ArrI K n room w0 mb fs nx o w m P W->∀(k:Nat),k+1<n->∀Y:List Nat->Prop,(∀l,l.length=n->P l->Y (exL l k))->Cl 92 #[Pt mb,Iv k] W λe w'=>e=.returned (Iv 0)/\ArrI K n room w0 mb fs nx o w m Y w'):=
  Hd λW P D k hk Y hP=>D.swap hk N L hP
 have HP:=Hd M;obtain⟨R,g⟩:=Ex (ArrI K n room w0 mb fs nx o w m:(List Nat->Prop)->Wd->Prop);have gD:Hq (R (λl=>∀j,j<0->((l.getD j 0:Nat):Int)=at0 zs j) w):=Hd (by rw[g];exact⟨o,m,V,h.withOd (λj f=>by omega),rfl,rfl,ChgX.of_below (X7 _ _) o NoB,.inl (Xs _)⟩);have gA:Hq (∀P W W',R P W->Bw W W'->R P W'):=Hd (by rw[g];intro P W W' h1 h2;exact h1.below h2);have gj:Hq (∀P Y W,R P W->(∀l,l.length=n->P l->Y l)->R Y W):=Hd (by rw[g];intro P Y W h1 h2;exact h1.imp h2);rw[<-g]at HZ gd gi⊢;clear h A b M L N g
 go_enter func41,ntmps41
 go_wp2
 go_loopw [5,6,7] (λz s6 X wr=>∃i:Nat,i<=zs.length/\z=Iv i/\Hq (R (λl=>∀j,j<i->((l.getD j 0:Nat):Int)=at0 zs j) wr)) (λz _ _ _=>zs.length-(intOf z).toNat)
 case atStart=>exact⟨0,X0 _,rfl,gD⟩
 case round=>
  obtain⟨i,hi,rfl,HR⟩:=hrel
  by_cases gw:i<zs.length
  ·have gx:(i:Int)<zs.length:=by omega
   have g3:JG zs n:=by
    rcases HP.o with e|e
    . omega
    . exact e
   have gp:zs.length=n:=g3.len;obtain⟨O,gq,I⟩:=g3.lt i (by omega);have S:=Hd (gd.o wr _ HR.o);have go:=Hd g3.inj;clear g3;go_wp2_with fail;refine S.o.mono ?_;rintro x u ⟨av,cv,l,rfl,gg,gh,g8,ga,gb,gz,g6⟩;obtain⟨p,gf,g7⟩:=ga O gq;have gy:i<=p:=by
    rcases X9 p i with h|h
    . exfalso;have e1:=g8 p h;rw[g7,<-I]at e1;have:=go.o i p (by omega) gf e1;omega
    . exact h
   have Q:=Hd gh;have gE:=Hd g8;have g5:=Hd g7;have gF:=Hd gb;have T:=Hd g6;have gO:((n:Int) != (zs.length:Int))=false:=by rw[gp];simp
   obtain⟨bz,oz,ea,F⟩:=(HZ.o u _ g6).cells i gw;subst ea;rw[I]at F;have J:=Hd I;clear gh g8 g7 gb g6 ga S gz I;go_wp2
   go_loopw [7] (λX wr=>∃q:Nat,i<=q/\q<=p/\X=Iv q/\Hq (Bw u wr)) (λX _=>p-(intOf X).toNat)
   case atStart=>exact⟨i,Xs _,gy,rfl,Hd (X7 _ _)⟩
   case round=>
    rename Wd=>wq
    obtain⟨q,gv,gN,rfl,g0⟩:=hrel;have gL:(q:Int)<(n:Int):=by omega
    have g4:q<n:=by omega
    obtain⟨bv,ov,rfl,s⟩:=(Q.o.below g0.o).cells q (by rw[XT,gg];exact g4);have r:=Cq g0.o F;rw[Nd (by rw[gg];exact g4)]at s;obtain⟨y,B⟩:=Ex (l.getD q 0);rw[<-B]at s;have G:=Hd B;clear B;go_upto_region 8 with fail;refine AJ (λW:Wd=>W.cell? (Aw bv (ov+q))=some (Iv (y:Nat))/\W.cell? (Aw bz (oz+i))=some (Iv (O:Nat))/\Hq (Bw u W)) false 15
     [(0,false),(1,false),(2,false),(3,false),(4,false),(5,false),(6,false),(7,false),(8,false),(9,false),(10,false),(11,false),(12,false),(13,false),(14,false)] (by kernel_rfl) (by kernel_rfl) ⟨s,r,Hd (g0.o.trans ((An wq 1).mono g0.o.size))⟩ ?_
    simp only[planned,AI]
    iterate 5
     refine A0 rfl ?_;apply Exists.intro;refine⟨λw' Z=>?_,?_⟩
     . obtain⟨h1,h2,_⟩:=Z;go_simp;rfl
     simp only[Ab]
    iterate 9
     refine Eh true (by go_simp) ?_;apply Exists.intro;refine⟨λgP w' Z=>?_,?_⟩
     . obtain⟨h1,h2,_⟩:=Z;go_simp;rfl
     simp only[Ab]
    iterate 1
     refine A0 rfl ?_;apply Exists.intro;refine⟨λw' Z=>?_,?_⟩
     . obtain⟨h1,h2,_⟩:=Z;go_simp;rfl
     simp only[Ab]
    refine B6 ?_
    by_cases gK:q<p
    ·have g9:((y:Int) != (O:Int))=true:=by
      simp only[bne_iff_ne,ne_eq];intro e;have e2:l.getD q 0=l.getD p 0:=by rw[g5.o,<-G.o];omega
      have:=gF.o q p g4 gf e2;omega
     go_wp2;go_roundw
     case rel=>exact⟨q+1,by omega,by omega,by go_num,Hd (g0.o.trans ((An wq 1).mono g0.o.size))⟩
     case measure=>simp[intOf];omega
    ·obtain rfl:q=p:=by omega
     have g9:((y:Int) != (O:Int))=false:=by
      have:y=O:=by rw[G.o,g5.o]
      rw[this];simp
     have gM:((q:Int) == (n:Int))=false:=by simp;omega
     have gk:Hq (R (λH=>(∀j,j<i->((H.getD j 0:Nat):Int)=at0 zs j)/\H.getD q 0=O) wq.drew):=Hd (by
      have h1:=gA.o _ _ _ T.o (g0.o.trans ((An wq 1).mono g0.o.size));exact gj.o _ _ _ h1 λH _ e=>by subst e;exact⟨gE.o,g5.o⟩)
     rw[g9];clear T g0 Q s F r g9;go_wp2
     go_loopw [4,7] (λs4 X wr=>∃q:Nat,i<=q/\q<n/\X=Iv q/\Hq (R (λH=>(∀j,j<i->((H.getD j 0:Nat):Int)=at0 zs j)/\H.getD q 0=O) wr)) (λ_ X _=>(intOf X).toNat)
     case atStart=>exact⟨q,gv,g4,rfl,gk⟩
     case round=>
      clear gk G g5
      rename Wd=>wt
      obtain⟨t,gJ,gu,rfl,gc⟩:=hrel
      by_cases gI:i<t
      ·obtain⟨U,rfl⟩:∃U,t=U+1:=⟨t-1,by omega⟩;have gt:((U+1:Nat):Int)>i:=by omega
       have HS:=Hd (gi.o wt _ gc.o U gu (λH=>(∀j,j<i->((H.getD j 0:Nat):Int)=at0 zs j)/\H.getD U 0=O) (λH hl ⟨g1,g2⟩=>⟨λj f=>by rw[TP (by omega) (by omega)];exact g1 j f,by rw[TO (by omega)];exact g2⟩));have gG:((U+1:Nat):Int)-1=(U:Nat):=by omega
       go_upto_region 14 with fail;go_wp2_with fail;refine HS.o.mono ?_;rintro x w5 ⟨rfl,ge⟩;have gC:=Hd ge;clear ge HS gc;go_wp2;go_roundw
       case rel=>exact⟨U,by omega,by omega,by go_num,gC⟩
       case measure=>simp[intOf]
      ·obtain rfl:t=i:=by omega
       have gB:Hq (R (λl=>∀j,j<t+1->((l.getD j 0:Nat):Int)=at0 zs j) wt):=Hd (by
        refine gj.o _ _ _ gc.o λH _ ⟨g1,g2⟩ j f=>?_
        rcases X9 j t with h|h
        . exact g1 j h
        ·obtain rfl:j=t:=by omega
         rw[g2,J.o])
       have gt:¬ (t:Int)>t:=by omega
       go_wp2;go_roundw
       case rel=>exact⟨t+1,by omega,by go_num,gB⟩
       case measure=>simp[intOf];omega
  ·have he:i=zs.length:=by omega
   have gx:¬ (i:Int)<zs.length:=by omega
   go_wp2;go_ret;exact⟨rfl,by rw[<-he];exact HR.o⟩
end
def Uq (i n:Nat)(hi:i<=1048576)(b:n<=16)(w:Wd):Cl 99 #[Iv i,Iv n] w λx w'=>∃v,x=.returned v/\OwnB w' w.heap.size v (AE i n)/\Bw w w':=by
 go_enter func99,ntmps99
 go_wp2
 go_loopw [0,5,6] (λO I H wr=>∃j q:Nat,j<=n/\q<=1048576/\H=Iv j/\O=Iv q/\Hq (i/2^j=q)/\OwnB wr w.heap.size I (AE i j)/\w.heap.size<=wr.heap.size/\Bw w wr) (λ_ _ H _=>n-(intOf H).toNat)
 case atStart=>exact⟨0,i,X0 _,hi,rfl,rfl,Hd (by simp),D1 _ w _ (Xs _),by simp,Ag w _⟩
 case round=>
  obtain⟨j,q,c,a,rfl,rfl,HQ,g0,g5,g1⟩:=hrel
  by_cases g7:j<n
  ·have Z:Hq (((q:Int).tmod 2 == 1)=bitB i j):=by
    refine Hd ?_;rw[tmod2];unfold bitB;rw[HQ.o]
   have g2:=Hd g0;have g3:=Hd g1;clear g0 g1;go_wp2_with (at_builtin;refine Dh C6 _ rfl _ _ rfl w.heap.size _ (AA (AE i j)) _ rfl rfl rfl rfl rfl (by exact g2.o) (by simp[AA,MN];omega) g5 ?_;intro v1 w1 g4 e1 e2 Y X g6);go_roundw
   case rel=>
    refine⟨j+1,q/2,by omega,by omega,by go_num,by go_num,Hd ?_,?_,by omega,FF g3.o g2.o e1 e2 Y X g6 g5⟩
    . rw[XJ,<-Zb,HQ.o]
    . rw[Ty];unfold OwnB;rw[JQ,<-Z.o];exact g4
   case measure=>simp[intOf];omega
  ·have U:j=n:=by omega
   subst U;have g2:=Hd g0;have g3:=Hd g1;clear g0 g1;go_wp2;go_ret;exact⟨_,rfl,g2.o,g3.o⟩
theorem Ur (E:Dg T ST z b)(O:TypeId)(wr:Wd)(base:Nat)(v:Value)(xs:List Value)(y:Value)(Y:y.oneCell'=true)(H:OwnC T wr base v xs)(U:xs.length<1099511627776)(I:base<=wr.heap.size):
 ∃v' w',(Builtin.append_ #[ST,ST] O #[v,.slice (some (Av wr.heap.size)) 1 1]).run prog (wr.alloc (.cells #[y] T))=.ok v' w' /\
  OwnC T w' base v' (xs++[y])/\w'.os=wr.os/\w'.tape=wr.tape/\w'.output=wr.output/\wr.heap.size<=w'.heap.size/\BG v v' wr w':=by
 obtain⟨i,hi,X,g1,g3⟩:=Zm E.info;have g2:=E.small;obtain⟨v',w',Z,h1,h2,_,g0⟩:=run_append_own_at (P:=prog) (wr.alloc (.cells #[y] T)) base ST O T i z 1 b E.under hi X g1 g3 (by rw[E.one];rfl) (by decide)
  v xs.length xs (H.alloc _) (Av wr.heap.size) 1 1 [y] rfl (cell_one_new _ _ _) (by intro u hu;simp at hu;subst hu;exact Y) (by unfold maxLen;omega) (by
   have h1:(xs.length+1)*b<=1099511627776*100:=aG (by omega) g2;omega) (by simp;omega)
 refine⟨v',w',Z,?_,h2.os,h2.tape,h2.output,?_,⟨Gb h2,g0.imp id λe=>⟨_,e,by simp⟩⟩⟩
 . unfold OwnC;rw[X4];exact h1
 . have:=h2.size;simp at this;omega
def OwnC.lower {base:Nat}(h:OwnC T w base v xs)(hb:b<=base):OwnC T w b v xs:=by
 refine⟨h.1,?_⟩;rcases h.2 with I|⟨g,cap,H,rfl,g0,rest⟩
 . exact .inl I
 . exact .inr ⟨g,cap,H,rfl,by omega,rest⟩
def Us (e:ExT)(x:Value)(n:Nat)(hn:n<=12)(w:Wd)(hs:e.size<=4096)(O:okT e 1)(h:A6 w e x):
 Cl 43 #[x,Iv n] w λy w'=>∃v,y=.returned v/\OwnB w' w.heap.size v (tabB n (fnT e))/\Bw w w':=by
 have F:Hq (∀W,Bw w W->∀u,u=x->Cl 35 #[u] W (Bl (Iv 0) W)):=Hd λW hb u hu=>by
  subst hu
  exact(JB e _ W hs (h.below hb)).mono (by
   rintro y w' ⟨err,rfl,h1,h2⟩;rw[h1.2 O];exact⟨rfl,h2⟩)
 have gy:Hq (∀W,Bw w W->∀u,u=x->∀(ls:List Bool) g cl,AM W g ls->Cl 98 #[u,.slice g ls.length cl] W (Bl (.bool (fnT e (A4 ls))) W)):=Hd λW hb u hu ls g cl hl=>by
  subst hu;exact Nv ls g cl e _ W O.valid (h.below hb) hl
 have gi:Hq (∀j,j<=1048576->∀W,Cl 99 #[Iv (j:Nat),Iv n] W λx w'=>∃v,x=.returned v/\OwnB w' W.heap.size v (AE j n)/\Bw W w'):=Hd λj C W=>Uq j n C (by omega) W
 have HS:Hq (∀k,k<=n->2^k<=4096):=Hd λk hk=>Xz (X8 (by omega) (show k<=12 by omega)) (by decide)
 obtain⟨Y,X,U,hx,o0,o1,o2⟩:=h.agg;subst hx;obtain⟨w1,g5⟩:=Ex (w.alloc (.cells #[Y,X,U] 78));have HW1:Hq (_=w1):=Hd g5.symm;have g7:Hq (Bw w w1):=by rw[g5];exact Hd (Ag _ _)
 have g4:w1.heap[w.heap.size]?=some (.cells #[Y,X,U] 78 (0,0)):=by rw[g5];exact Xv _ _
 have hs1:w1.heap.size=w.heap.size+1:=by rw[g5];simp
 have d0:w1.cell? (Av w.heap.size)=some Y:=by rw[Xw _ _ 0 _ _ _ g4];rfl
 have d1:w1.cell? (Aw w.heap.size 1)=some X:=by rw[Xw _ _ 1 _ _ _ g4];rfl
 have d2:w1.cell? (Aw w.heap.size 2)=some U:=by rw[Xw _ _ 2 _ _ _ g4];rfl
 obtain⟨L,c⟩:=Ex (2^n);have gD:=Hd c;obtain⟨G,t⟩:=Ex (λi=>fnT e (A4 (AE i n)):Nat->Bool)
 have HG:Hq (∀i,fnT e (A4 (AE i n))=G i):=Hd λi=>by rw[t]
 have HT:Hq (tabB n (fnT e)=(List.range L).map G):=Hd (by rw[c,t];rfl);have gJ:L<=4096:=by rw[c];exact HS.o n (Xs _)
 rw[HT.o];clear h g5 g4 t c
 go_enter func43,ntmps43
 go_upto_region 1 with fail;rw[HW1.o];have gI:¬ (n:Int)<0:=by omega
 have gG:¬ (n:Int)>12:=by omega
 go_wp2_with fail;refine(F.o _ g7.o _ rfl).mono ?_;rintro y w2 ⟨rfl,K⟩;have HB2:=Hd K;clear K F;go_wp2
 go_loopw [5,6] (λs5 m wr=>∃k p:Nat,k<=n/\s5=Iv p/\m=Iv k/\Hq (wr=w2)/\Hq (2^k=p)) (λ_ m _=>n-(intOf m).toNat)
 case atStart=>exact⟨0,1,X0 _,rfl,rfl,Hd rfl,Hd rfl⟩
 case round=>
  obtain⟨k,p,hk,rfl,rfl,gf,HP⟩:=hrel;have gH:p<=4096:=by rw[<-HP.o];exact HS.o k hk
  by_cases S:k<n
  ·go_wp2;go_roundw
   case rel=>exact⟨k+1,2*p,by omega,by go_num,by go_num,gf,Hd (by rw[XJ,HP.o];omega)⟩
   case measure=>simp[intOf];omega
  ·obtain rfl:k=n:=by omega
   obtain rfl:p=L:=by rw[<-HP.o,gD.o]
   have gA:=gf.o;subst gA;obtain⟨Z,g8⟩:=Ex (wr.alloc (.cells #[] 4));have J:Hq (_=Z):=Hd g8.symm;have ge:Bw w1 Z:=by rw[g8];exact HB2.o.trans ((Ag _ _).mono HB2.o.size)
   have gg:Hq (OwnB Z w1.heap.size (.slice (some (Av wr.heap.size)) 0 0) []):=by rw[g8];exact Hd (D1 _ _ _ HB2.o.size)
   have D:=Hd ge;have T:w1.heap.size<=Z.heap.size:=ge.size;clear g8 ge S;go_upto_region 9 with fail;rw[J.o];go_wp2
   go_loopw [7,8] (λs7 l wr=>∃j:Nat,j<=p/\l=Iv j/\Hq (OwnB wr w1.heap.size s7 ((List.range j).map G))/\Hq (Bw w1 wr)/\w1.heap.size<=wr.heap.size) (λ_ l _=>p-(intOf l).toNat)
   case atStart=>exact⟨0,X0 _,rfl,gg,D,T⟩
   case round=>
    clear gg D T J gf HB2
    rename Wd=>wq
    obtain⟨j,C,rfl,gt,g3,gB⟩:=hrel
    by_cases S:j<p
    ·have e0:=Cq g3.o d0;have e1:=Cq g3.o d1;have e2:=Cq g3.o d2;have HL:=Hd (gi.o j (by omega) wq.drew);go_upto_region 12 with fail;refine AJ (λW:Wd=>W.cell? (Av w.heap.size)=some Y/\W.cell? (Aw w.heap.size 1)=some X/\W.cell? (Aw w.heap.size 2)=some U) false 9
      [(0,false),(1,false),(2,false),(3,false),(4,true),(5,true),(6,true),(7,true),(8,false)] (by kernel_rfl) (by kernel_rfl) ⟨e0,e1,e2⟩ ?_
     simp only[planned,AI]
     iterate 4
      refine A0 rfl ?_;apply Exists.intro;refine⟨λw' r=>?_,?_⟩
      . obtain⟨h1,h2,h3⟩:=r;go_simp;rfl
      simp only[Ab]
     refine B7 (R:=λv w'=>Ay w' v (AE j k)/\Bw wq w') rfl (by go_simp) (HL.o.mono (λe w' s=>?_)) ?_
     . obtain⟨v,rfl,b,a⟩:=s;have H:Bw wq w':=(An wq 1).trans (a.mono (An wq 1).size);exact⟨v,rfl,⟨(Cq H e0),(Cq H e1),(Cq H e2)⟩,b.boolsIs (by rw[MN];omega),H⟩
     rintro v A ⟨f0,f1,f2⟩ ⟨⟨av,cv,rfl,N,-⟩,M⟩;have E:=Hd N;have gc:=Hd M;clear N M e0 e1 e2 HL;simp only[Ab];refine B7 (R:=λv w'=>v=.bool (G j)/\Bw A w') rfl (by go_simp) ((gy.o A (g7.o.trans ((g3.o.trans (gc.o.mono g3.o.size)).mono g7.o.size)) _ rfl (AE j k) av cv E.o).mono (λe w' s=>?_)) ?_
     . obtain⟨rfl,H⟩:=s;exact⟨_,rfl,⟨(Cq H f0),(Cq H f1),(Cq H f2)⟩,by rw[HG.o],H⟩
     rintro v I ⟨g0,g1,g2⟩ ⟨rfl,go⟩;obtain⟨y,q⟩:=Ex (G j);rw[<-q];have gC:Hq (AA ((List.range (j+1)).map G)=AA ((List.range j).map G)++[.bool y]):=Hd (by rw[Nu,JQ,q]);have f:=gc.o.trans (go.mono gc.o.size);have gF:=Hd (g3.o.trans (f.mono g3.o.size));have V:=Hd (gt.o.below f);have gd:w1.heap.size<=I.heap.size:=Xz gB f.size;clear go f f0 f1 f2 q E gc;simp only[Ab];have d:=Ag I (.cells #[.bool y] 4);refine Ei (v:=.slice (some (Av I.heap.size)) 1 1) (w':=I.alloc (.cells #[.bool y] 4)) rfl (by go_simp) ⟨(Cq d g0),(Cq d g1),(Cq d g2)⟩ ?_;simp only[Ab];obtain⟨v6,z,gk,g9,b,a,H,B,Q⟩:=Ur C6 28 I w1.heap.size _ (AA ((List.range j).map G)) (.bool y) rfl V.o (by simp[AA];omega) gd;have g6:=FF gF.o V.o b a H B Q gd;refine Ei (v:=v6) (w':=z) rfl (KN rfl rfl rfl gk) ⟨(Cq g6 d0),(Cq g6 d1),(Cq g6 d2)⟩ ?_;simp only[Ab]
     iterate 1
      refine A0 rfl ?_;apply Exists.intro;refine⟨λw' r=>?_,?_⟩
      . obtain⟨h1,h2,h3⟩:=r;go_simp;rfl
      simp only[Ab]
     refine B6 ?_;have gE:=Hd g6;have gz:=Hd g9;have gx:w1.heap.size<=z.heap.size:=by omega
     clear g6 g9 b a H B Q gk g0 g1 g2 d;go_wp2;go_roundw
     case rel=>exact⟨j+1,by omega,by go_num,Hd (by unfold OwnB;rw[gC.o];exact gz.o),gE,gx⟩
     case measure=>simp[intOf];omega
    ·obtain rfl:j=p:=by omega
     have HF:Hq (∃v,Ending.returned u7=.returned v/\OwnB wq w.heap.size v ((List.range j).map G)/\Bw w wq):=Hd ⟨u7,rfl,gt.o.lower (by omega),g7.o.trans (g3.o.mono g7.o.size)⟩;go_wp2;go_ret;exact HF.o
section
variable (w:Wd)
def Ut (t X e:TypeId)(i:TypeInfo)(Y:P.underlying t=some (.slice e))(hi:P.info? e=some i)
 (g off sLen sCap:Nat) (H:Array Value) (Z:w.heap[g]?=some (.cells H e (0,0)))
 (a:Addr) (m c:Nat) (news:List Value) (hl:news.length=m*i.size) (O:∀j u,news[j]?=some u->w.cell? (a.add j)=some u) (h1:∀u∈news,u.oneCell'=true)
 (I:sLen+m<=sCap) (U:off+sLen*i.size+news.length<=H.size):
 (Builtin.append_ #[t,t] X #[.slice (some (Aw g off)) sLen sCap,.slice (some a) m c]).run P w=
  .ok (.slice (some (Aw g off)) (sLen+m) sCap) (w.setRow g (H.toList.take (off+sLen*i.size)++news++H.toList.drop (off+sLen*i.size+news.length)).toArray):=by
 have b:=run_firstCells_some (P:=P) w i.size m a m c news hl O;have g0:=run_storeCells_at P g (off+sLen*i.size) e news 0 H w Z (by simpa using U) h1;simp only[Zh]at g0;have g1:((Aw g off):Addr).add (sLen*i.size)=(Aw g (off+sLen*i.size)):=by unfold Addr.add;split<;>simp_all
 simp[Builtin.append_,XZ Y,sizeOf,typeInfo,hi,Builtin.lenOf,I,b,g1,g0]
end
def Uu:(prog.info? 76).map (λi=>(i.zero,i.size,i.bytes))=some (some (.agg #[Iv 0,Iv 0,Iv 0]),3,24):=by kernel_rfl
def Uv (l:List Ev):∀(j:Nat) (u:Value),(l.flatMap evL)[j]?=some u->∃hk:j/3<l.length,(evL (l[j/3]))[j%3]?=some u:=by
 induction l with
 | nil=>intro j u h;simp at h
 | cons e l H=>
   intro j u h;rw[YY]at h
   by_cases I:j<3
   ·rw[XN (by show j<3;exact I)]at h;have e0:j/3=0:=by omega
    refine⟨by rw[e0];simp,?_⟩;have e1:j%3=j:=by omega
    simp only[e0,e1,List.getElem_cons_zero];exact h
   ·rw[Ya (by show 3<=j;omega)]at h;obtain⟨hk,h2⟩:=H (j-3) u h;have e0:j/3=(j-3)/3+1:=by omega
    have e1:j%3=(j-3)%3:=by omega
    refine⟨by rw[e0,XL];omega,?_⟩;simp only[e0,e1,List.getElem_cons_succ];exact h2
def EvsAt.news {l:List Ev}(h:EvsAt w (some (Aw b off)) l):∀j u,(l.flatMap evL)[j]?=some u->w.cell? (((Aw b off):Addr).add j)=some u:=by
 intro j u hu;have g0:((Aw b off):Addr).add j=(Aw b (off+j)):=by unfold Addr.add;split<;>simp_all
 obtain⟨hk,h2⟩:=Uv l j u hu;obtain⟨O,off',e,H,c1,c2⟩:=h.cells (j/3) hk;cases e;rw[g0];have I:j%3<3:=Nat.mod_lt _ (by decide);rcases(by omega:j%3=0\/j%3=1\/j%3=2)with e|e|e<;>rw[e]at h2
 ·have e2:j=j/3*3:=by omega
  rw[e2,H];exact h2
 ·have e2:j=j/3*3+1:=by omega
  rw[e2,<-Zq,c1];exact h2
 ·have e2:j=j/3*3+2:=by omega
  rw[e2,<-Zq,c2];exact h2
def Uw (l:List Ev):∀u∈l.flatMap evL,u.oneCell'=true:=by
 intro u hu;obtain⟨e,_,h⟩:=List.mem_flatMap.1 hu;simp only[evL,Yy,ZQ,or_false]at h;rcases h with rfl|rfl|rfl<;>rfl
abbrev Z3:=@List.length_pos_iff
abbrev Zo:=@Nat.min_eq_left
def N4 {o:Own}{l:List Ev}{a:Option Addr}(h:Be o w v ws)(O:Ac o w)(Z:EvsAt w a l)(X:ws.length+l.length<=1000)(d:TypeId):
 ∃v' w' o',(Builtin.append_ #[24,24] d #[v,.slice a l.length c]).run prog w=.ok v' w'/\Be o' w' v' (ws++l)/\Chg (· = .waits) o o' w w'/\Ac o' w':=by
 obtain⟨i,hi,f,g3,p⟩:=Zm Uu;have U:=underlying24
 by_cases h0:l=[]
 ·subst h0;refine⟨v,w,o,?_,by rw[Y5];exact h,Chg.refl _ _ _,O⟩;rcases h.ex with ⟨rfl,rfl⟩|⟨g,off,cap,H,rfl,_,_,s,_⟩
  . cases a<;>simp[Builtin.append_,XZ U,sizeOf,typeInfo,hi,Builtin.lenOf,Builtin.firstCells,loadCells,loadCellsFrom]
  . cases a<;>simp[Builtin.append_,XZ U,sizeOf,typeInfo,hi,Builtin.lenOf,s,Builtin.firstCells,storeCells,loadCells,loadCellsFrom]
 ·have r:0<l.length:=Z3.2 h0;obtain⟨b,off,rfl,_⟩:=Z.cells 0 r;have g0:=Z.news;have gc:=Uw l;have g5:(l.flatMap evL).length=l.length*i.size:=by rw[g3];exact EJ l
  have g9:(ws.flatMap evL++l.flatMap evL).length=(ws++l).length*3:=by rw[X4,EJ,EJ,X4];omega
  have mk:∀(I:Nat),Be (AL o w.heap.size .waits) (w.drew.alloc (.cells ((ws.flatMap evL).toArray++(l.flatMap evL).toArray++Builtin.zeroCells (Value.agg #[Iv 0,Iv 0,Iv 0]).cells (grownCap w (ws.length+l.length) I 76-(ws.length+l.length))) 76)) (.slice (some (Av w.heap.size)) (ws.length+l.length) (grownCap w (ws.length+l.length) I 76)) (ws++l) /\
   Chg (· = .waits) o (AL o w.heap.size .waits) w (w.drew.alloc (.cells ((ws.flatMap evL).toArray++(l.flatMap evL).toArray++Builtin.zeroCells (Value.agg #[Iv 0,Iv 0,Iv 0]).cells (grownCap w (ws.length+l.length) I 76-(ws.length+l.length))) 76)) /\
   Ac (AL o w.heap.size .waits) (w.drew.alloc (.cells ((ws.flatMap evL).toArray++(l.flatMap evL).toArray++Builtin.zeroCells (Value.agg #[Iv 0,Iv 0,Iv 0]).cells (grownCap w (ws.length+l.length) I 76-(ws.length+l.length))) 76)):=by
   intro I;have t:=grownCap_ge w (ws.length+l.length) I 76;have g6:grownCap w (ws.length+l.length) I 76<=maxLen:=grownCap_le_maxLen w _ I _ (by unfold maxLen;omega);refine⟨⟨.inr ⟨w.heap.size,0,_,_,by rw[X4],B4 _ _ _,Xv w.drew _,by rw[X4];exact t,g6,?_,?_⟩⟩,((Chg.refl (· = .waits) o w).drewN 1).allocR (w':=w.drewN 1) O _ rfl,Ac.allocR (w:=w.drewN 1) O _ .waits⟩
   . have z:(Value.agg #[Iv 0,Iv 0,Iv 0]).cells.size=3:=rfl;simp only[Array.size_append,Y6,size_zeroCells,z,EJ,XO];omega
   . simp only[Array.toList_append,List.drop_zero,Z2];rw[List.take_left' g9]
  rcases h.ex with ⟨rfl,rfl⟩|⟨g,off2,cap,H,rfl,g8,e,x,g6,A,g2⟩
  . have Y:=run_append_nil (P:=prog) w 24 d 76 i _ U hi f (Aw b off) l.length c (l.flatMap evL) g5 g0 r (by simp at X;omega) (by rw[p];simp at X;omega);have n:=mk 0;simp only[Y2,XO,List.flatMap_nil,Yv,Array.empty_append]at n⊢;exact⟨_,_,_,Y,n⟩
  ·by_cases g4:ws.length+l.length<=cap
   ·have g1:off2+ws.length*i.size+(l.flatMap evL).length<=H.size:=by rw[g5,g3];omega
    have Y:=Ut (P:=prog) w 24 d 76 i U hi g off2 ws.length cap H e (Aw b off) l.length c (l.flatMap evL) g5 g0 gc g4 g1;refine⟨_,_,o,Y,⟨.inr ⟨g,off2,cap,_,by rw[X4],g8,setRow_heap w g H _ _ _ e,by rw[X4];exact g4,g6,?_,?_⟩⟩,⟨rfl,rfl,rfl,by simp,λk _ hk=>setRow_other w g k _ (by rintro rfl;exact hk _ g8 rfl),λ_ _ h=>h,λ_ h=>(h rfl).elim⟩,λk q m=>by have:=O k q m;simpa using this⟩
    . simp only[Y6,X4,YB,aS,Array.length_toList];omega
    ·rw[g3]at g1⊢;have e1:(H.toList.take (off2+ws.length*3)).drop off2=ws.flatMap evL:=by
      rw[<-g2,List.drop_take,Nat.add_sub_cancel_left]
     have e2:off2<=(H.toList.take (off2+ws.length*3)).length:=by
      have m:ws.length*3<=cap*3:=XS _ x;have gf:off2+ws.length*3<=H.size:=by clear g1;omega
      have ge:H.toList.length=H.size:=Array.length_toList;rw[YB,ge,Zo gf];exact Nat.le_add_right _ _
     simp only[XF];rw[List.drop_append_of_le_length e2,e1,<-XF,Z2,List.take_left' g9]
   ·have g7:∀j u,(ws.flatMap evL)[j]?=some u->w.cell? (((Aw g off2):Addr).add j)=some u:=by
     intro j u hu;have y:((Aw g off2):Addr).add j=(Aw g (off2+j)):=by unfold Addr.add;split<;>simp_all
     rw[y,Xw w g (off2+j) H _ _ e];rw[<-g2,Zt]at hu;split at hu
     . rw[Zu]at hu;simpa using hu
     . cases hu
    have Y:=run_append_grow (P:=prog) w 24 d 76 i _ U hi f (Aw g off2) ws.length cap (ws.flatMap evL) (by rw[g3];exact EJ ws) g7 (Aw b off) l.length c (l.flatMap evL) g5 g0 (by omega) (by omega) (growslice_fits (by omega) (by rw[p];omega));exact⟨_,_,_,Y,mk cap⟩
def Be.form {o:Own}(h:Be o w v ws):∃a c,v=.slice a ws.length c:=by
 rcases h.ex with ⟨rfl,rfl⟩|⟨g,off,cap,H,rfl,_⟩
 . exact⟨_,_,rfl⟩
 . exact⟨_,_,rfl⟩
def N5 {op:Oper}{vs:Value}(I:op.guard=none)(s x:Operand)(t:TypeId)
 (H:op.op=.call { callee:=.builtin .append,args:=#[s,x],argTypes:=#[t,t] }) (hs:a.eval s=vs) (hx:a.eval x=vx) (O:(Builtin.append_ #[t,t] op.type #[vs,vx]).run P w=.ok v' w')
 (U:wpList P ops Q rest (a.put op.dst v') w'):wpList P ops Q (op::rest) a w:=by
 refine wpList_plain I λK g0=>?_
 unfold Oper.wp execOp;simp only[H,resolve,invoke,builtin,Yx,Sem.run_pure,XY,List.map_toArray,Yz,aE,hs,hx,O];exact g0 _ _ U
def A9.setWaits {F:Phi}{o:Own}{s:ManW}(h:A9 F o w mb m s)(U:Ac o w){Y:List Ev}(Z:Be o' w' v' Y)(I:Chg (· = .waits) o o' w w'):A9 F o' (w'.setCell (Aw mb 4) v') mb { m with waits:=Y } { s with vw:=v' }:=by
 have key:∀{g r},o g=some r->r ≠ .man->r ≠ .waits->(w'.setCell (Aw mb 4) v').heap[g]?=w.heap[g]?:=by
  intro g r H h1 h2;refine(Az (p:=Aw mb 4) (λe=>?_) _).trans (I.same U H h2);have X:g=mb:=e;subst X;have:=h.own;rw[H]at this;cases this;exact h1 rfl
 refine⟨I.ext _ _ h.own,?_,h.store.keepR (λg r H O=>key H (by rintro rfl;simp[Am,Bm]at O) (by rintro rfl;simp[Am,Bm]at O)) I.ext,h.memo.keep (λg r H O=>key H (by rintro rfl;rcases O with e|e<;>cases e) (by rintro rfl;rcases O with e|e<;>cases e)) I.ext,I.ext _ _ h.ownh,h.map.keepB (key h.ownh (by simp) (by simp)),Z.keep (λg H=>Az (p:=Aw mb 4) (λe=>?_) _) (λ_ h=>h)⟩
 . exact A2 ((I.same U h.own (by simp)).trans h.blk) _
 . have X:g=mb:=e;subst X;have:=I.ext _ _ h.own;rw[H]at this;cases this
section
variable {o:Own}
structure Planned (K:Law)(n:Nat)(Od:List Nat->Prop)(room:Nat)(w0:Wd)(mb:Nat)(fs:List (Int×BF))(nx:Int)(o:Own)(w:Wd)(m:ManD)(V:Nat->BF)(l:List Ev)(z:Int)(o':Own)(w':Wd)(m':ManD):Prop where
 sat:SatE K n Od room w0 mb fs nx w' o' m' V
 d:m'.d=m.d
 chg:Chg (λ_=>True) o o' w w'
 no:z≠0->m'.waits=m.waits/\m'.calls=m.calls
 yes:z=0->m'.waits=m.waits++l/\m'.calls=if m.waits=[]then 0 else m.calls
abbrev Z4:=@Calls.quiet_of_same
def Ux (h:SatE K n Od room w0 mb fs nx w o m V){a:Option Addr}{l:List Ev}(O:EvsAt w a l)(t:0<l.length->∀x,a=some x->o x.block=none)(E:m.waits.length<=256):
 Cl 44 #[Pt mb,.slice a l.length c] w λe w'=>e=.returned (Iv (Bj n m.waits.length l))/\∃o' m',Planned K n Od room w0 mb fs nx o w m V l (Bj n m.waits.length l) o' w' m':=by
 obtain⟨Q,J⟩:=Ex (λe w'=>e=.returned (Iv (Bj n m.waits.length l))/\∃o' m',Planned K n Od room w0 mb fs nx o w m V l (Bj n m.waits.length l) o' w' m':Ending->Wd->Prop)
 rw[<-J];have HQ:=Hd J;clear J;have gH:=O.len;have hn64:n<=64:=by rw[<-h.vars];exact h.ok.store.small
 obtain⟨s,hs⟩:=h.is;obtain⟨c0,c1,c2,c3,j,T,f0⟩:=cells6 hs.blk;obtain⟨av,cv,R⟩:=hs.waits.form
 have g1:Hq (∀(z:Int) W,Bw w W->Bj n m.waits.length l=z->z≠0->Q (.returned (Iv z)) W):=Hd (by
  intro z W hb X h0;rw[HQ.o,X];exact⟨rfl,o,m,h.below hb,rfl,Chg.of_below hb _ _,λ_=>⟨rfl,rfl⟩,λe=>(h0 e).elim⟩)
 have HV:Hq (∀W,Bw w W->Cl 46 #[Pt mb] W λe w'=>e=.returned (Iv n)/\w'=W):=Hd (λW hb=>(DR (h.below hb).is).mono λe w' q=>⟨by rw[q.1,h.vars],q.2.symm⟩);have HI:=Hd O;have HS:=Hd hs;have H:=Hd h;have gE:=Hd t;rw[R]at j;have gu:=Hd R;have gC:=Hd E;clear h hs O t R
 by_cases g9:(l.length:Int)>256-m.waits.length
 ·have I:=Hd (g1.o 18 w (X7 _ _) (by unfold Bj;rw[Xx g9]) (by decide))
  go_enter func44,ntmps44
  go_wp2_with fail;exact I.o
 have HR:Hq (Bj n m.waits.length l=Dk n (l.drop 0)):=Hd (by unfold Bj;rw[Xu g9];rfl);obtain⟨P,L⟩:=Ex (Bj n m.waits.length l);rw[<-L]at HR g1;have gD:=Hd L;clear L;have HM:=Hd g9
 go_enter func44,ntmps44
 go_wp2
 go_loopw [20] (λf wr=>∃i:Nat,i<=l.length/\f=Iv i/\Hq (Bw w wr)/\Hq (P=Dk n (l.drop i))) (λf _=>l.length-(intOf f).toNat)
 case atStart=>exact⟨0,X0 _,rfl,Hd (X7 _ _),HR⟩
 case round=>
  clear HR;obtain⟨i,hi,rfl,Z,HP⟩:=hrel
  by_cases gf:i<l.length
  ·obtain⟨b,off,rfl,e0,e1,e2⟩:=(HI.o.below Z.o).cells i gf;have gA:(i:Int)<l.length:=by omega
   have g:Hq (∀z:Int,Dj n l[i]=z->z≠0->P=z):=Hd λz X h0=>by rw[HP.o,GK gf,X,Xu h0]
   have HN:Hq (Dj n l[i]=0->P=Dk n (l.drop (i+1))):=Hd λX=>by rw[HP.o,GK gf,X,Xx rfl]
   have Y:Hq (Dj n l[i]=if l[i].kind<1\/l[i].kind>3 then 11 else if l[i].after<1\/(l[i].kind=2/\(l[i].level<0\/l[i].level>(n:Int)-2))then 2 else 0):=Hd rfl;obtain⟨ev,O⟩:=Ex (l[i]);rw[<-O]at e0 e1 e2 g HN Y;obtain⟨A,U,le⟩:=ev;dsimp only at e0 e1 e2 Y;clear O HP c0 c1 c2 c3 j T f0;obtain⟨W,B⟩:=Ex (wr.alloc (.cells #[Iv A,Iv U,Iv le] 76));have D:Bw w W:=Z.o.trans ((show Bw wr W by rw[B];exact Ag wr _).mono Z.o.size);obtain⟨bx,gm⟩:∃q,q=wr.heap.size:=⟨_,rfl⟩;have hx:W.heap[bx]?=some (.cells #[Iv A,Iv U,Iv le] 76 (0,0)):=by rw[B,gm];exact Xv wr _
   have b0:W.cell? (Av bx)=some (Iv A):=by rw[Xw W _ 0 _ _ _ hx];rfl
   have b1:W.cell? (Aw bx 1)=some (Iv U):=by rw[Xw W _ 1 _ _ _ hx];rfl
   have b2:W.cell? (Aw bx 2)=some (Iv le):=by rw[Xw W _ 2 _ _ _ hx];rfl
   have HW:=Hd B;have gF:=Hd gm;have g0:=Hd D;have g8:Hq (∀q,Cl 46 #[Pt mb] (W.drewN q) λe w'=>e=.returned (Iv n)/\w'=W.drewN q):=Hd (λq=>HV.o _ (D.trans ((An W q).mono D.size)));have C:=Hd gf;clear B gm D hx;go_upto_region 8 with fail;rw[<-HW.o,<-gF.o];have gy:U<1\/U>3\/(U=2)\/(U=1\/U=3):=by omega
   rcases gy with hk|hk|hk|hk
   . have I:=Hd (g1.o 11 W g0.o (g.o 11 (by rw[Y.o,Xx (.inl hk)]) (by decide)) (by decide));go_wp2_with fail;exact I.o
   ·have I:=Hd (g1.o 11 W g0.o (g.o 11 (by rw[Y.o,Xx (.inr hk)]) (by decide)) (by decide));have gz:¬ U<1:=by omega
    go_wp2_with fail;exact I.o
   ·by_cases G:A<1
    ·have I:Hq (∀q,Q (.returned (Iv 2)) (W.drewN q)):=Hd (λq=>g1.o 2 _ (g0.o.trans ((An W q).mono g0.o.size)) (g.o 2 (by rw[Y.o,Xu (by omega),Xx (.inl G)]) (by decide)) (by decide));subst hk;go_upto_region 10 with fail
     go_quiet (with_reducible exact Z4 (g8.o _))
     go_wp2_with fail;exact I.o _
    ·by_cases gx:le<0
     ·have I:Hq (∀q,Q (.returned (Iv 2)) (W.drewN q)):=Hd (λq=>g1.o 2 _ (g0.o.trans ((An W q).mono g0.o.size)) (g.o 2 (by rw[Y.o,Xu (by omega),Xx (.inr ⟨hk,.inl gx⟩)]) (by decide)) (by decide));subst hk;go_upto_region 10 with fail
      go_quiet (with_reducible exact Z4 (g8.o _))
      go_wp2_with fail;exact I.o _
     ·by_cases v:le>=(n:Int)-1
      ·have I:Hq (∀q,Q (.returned (Iv 2)) (W.drewN q)):=Hd (λq=>g1.o 2 _ (g0.o.trans ((An W q).mono g0.o.size)) (g.o 2 (by rw[Y.o,Xu (by omega),Xx (.inr ⟨hk,.inr (by omega)⟩)]) (by decide)) (by decide));subst hk;go_upto_region 10 with fail
       go_quiet (with_reducible exact Z4 (g8.o _))
       go_wp2_with fail;exact I.o _
      ·have gc:=Hd (HN.o (by rw[Y.o,Xu (by omega),Xu (by omega)]));subst hk;go_upto_region 10 with fail
       go_quiet (with_reducible exact Z4 (g8.o _))
       have go:=Hd (g0.o.trans ((An W nq).mono g0.o.size));go_wp2;go_roundw
       case rel=>exact⟨i+1,Z0 C.o,by go_num,go,gc⟩
       case measure=>
        have:=C.o;simp[intOf];omega
   ·have gz:¬ U<1:=by omega
    have gJ:¬ U>3:=by omega
    have gI:(U == 2)=false:=by simp;omega
    by_cases G:A<1
    ·have I:Hq (∀q,Q (.returned (Iv 2)) (W.drewN q)):=Hd (λq=>g1.o 2 _ (g0.o.trans ((An W q).mono g0.o.size)) (g.o 2 (by rw[Y.o,Xu (by omega),Xx (.inl G)]) (by decide)) (by decide));clear hk;go_upto_region 10 with fail
     go_quiet (with_reducible exact Z4 (g8.o _))
     go_wp2_with fail;exact I.o _
    ·have gc:=Hd (HN.o (by rw[Y.o,Xu (by omega),Xu (by omega)]));clear hk;go_upto_region 10 with fail
     go_quiet (with_reducible exact Z4 (g8.o _))
     have go:=Hd (g0.o.trans ((An W nq).mono g0.o.size));go_wp2;go_roundw
     case rel=>exact⟨i+1,Z0 C.o,by go_num,go,gc⟩
     case measure=>
      have:=C.o;simp[intOf];omega
  ·have he:i=l.length:=by omega
   have gA:¬ (i:Int)<l.length:=by omega
   have gc:Hq (P=0):=Hd (by rw[HP.o,he,aW];rfl);clear he;have hs':=HS.o.below H.o.lt Z.o;have g3:=H.o.lt.mono Z.o.size;have gp:m.waits.length+l.length<=1000:=by have:=HM.o;have:=gC.o;omega
   have gn:Hq (∀(cl:Int) (W:Wd) (F:A9 (K m.d V) o W mb { m with calls:=cl } s) (hl:Ac o W) (hc:Chg (λ_=>True) o o w W) (v':Value) (W':Wd) (o':Own),cl=(if m.waits=[]then 0 else m.calls)->Be o' W' v' (m.waits++l)->Chg (· = .waits) o o' W W'->Ac o' W'->Q (.returned (Iv 0)) (W'.setCell (Aw mb 4) v')):=Hd (by
    intro cl W F hl hc v' W' o' gB hw M gw;rw[HQ.o,<-gD.o,gc.o];have gv:=F.setWaits hl hw M;have gr:Chg (λ_=>True) o o' w (W'.setCell (Aw mb 4) v'):=(hc.trans M.any).setCell (p:=Aw mb 4) (M.ext _ _ F.own) trivial _;exact⟨rfl,o',{ m with waits:=m.waits++l,calls:=cl },⟨⟨_,gv⟩,gw.mono (by simp[World.setCell]),⟨H.o.ok.store,⟨H.o.ok.handles.nodup,H.o.ok.handles.zero,H.o.ok.handles.one,H.o.ok.handles.lt,H.o.ok.handles.next,H.o.ok.handles.ok,H.o.ok.handles.len,H.o.ok.handles.refs⟩⟩,H.o.vars,H.o.od,H.o.room,H.o.next,H.o.hs,H.o.chg.lower (ChgX.of_chg gr NoB) (λ_ e=>e.elim)⟩,rfl,gr,λe=>(e rfl).elim,λ_=>⟨rfl,gB⟩⟩)
   have u:=HI.o.below Z.o;clear c0 c1 c2 c3 j T f0;obtain⟨c0,c1,c2,c3,j,T,f0⟩:=cells6 hs'.blk
   by_cases hw0:m.waits=[]
   ·have X:m.waits.length=0:=by rw[hw0];rfl
    have HZ:=Hd X;have g7:A9 (K m.d V) o (wr.setCell (Aw mb 5) (Iv 0)) mb { m with calls:=0 } s:=hs'.field rfl rfl rfl rfl rfl (hs'.waits) rfl;have gt:Chg (λ_=>True) o o w (wr.setCell (Aw mb 5) (Iv 0)):=(Chg.of_below Z.o _ _).setCell (p:=Aw mb 5) hs'.own trivial _;have v:Ac o (wr.setCell (Aw mb 5) (Iv 0)):=g3.mono (by simp[World.setCell])
    have gq:EvsAt (wr.setCell (Aw mb 5) (Iv 0)) a l:=⟨u.len,λk hk=>by
     obtain⟨b,off,e,q0,q1,q2⟩:=u.cells k hk;have gk:mb≠b:=by
      rintro rfl;have:=gE.o (by omega) _ e;have h2:=hs'.own;rw[h2]at this;cases this
     exact⟨b,off,e,CC q0 (.inl gk),CC q1 (.inl gk),CC q2 (.inl gk)⟩⟩
    obtain⟨v',w2,o2,g2,g4,g5,y⟩:=N4 (c:=c) g7.waits v gq gp 24;obtain⟨av2,S,N⟩:=g4.form;subst N;have I:=Hd (gn.o 0 _ g7 v gt _ w2 o2 (by rw[Xx hw0]) g4 g5 y);obtain⟨k0,k1,k2,k3,k4,k5,kf⟩:=cells6 g7.blk;have g6:=(g5.same v g7.own (by simp)).trans g7.blk;obtain⟨j0,j1,j2,j3,j4,j5,jf⟩:=cells6 g6;rw[gu.o,X]at j k4 g2;clear hs' g3 g7 gt v gq g4 g5 y u hw0 g6 k0 k1 k2 k3 k5 kf;have ge:=Hd g2;clear g2;go_upto_region 15 with fail;go_wp2_with (refine N5 rfl _ _ _ rfl rfl rfl ge.o ?_);have r:=I.o;rw[X4,HZ.o,XO]at r;exact r
   ·have X:0<m.waits.length:=Z3.2 hw0;have gG:((m.waits.length:Int) == 0)=false:=by rw[YR];omega
    obtain⟨v',w2,o2,g2,g4,g5,y⟩:=N4 (c:=c) hs'.waits g3 u gp 24;obtain⟨av2,S,N⟩:=g4.form;subst N;have I:=Hd (gn.o m.calls _ hs' g3 (Chg.of_below Z.o _ _) _ w2 o2 (by rw[Xu hw0]) g4 g5 y);have g6:=(g5.same g3 hs'.own (by simp)).trans hs'.blk;obtain⟨j0,j1,j2,j3,j4,j5,jf⟩:=cells6 g6;rw[gu.o]at j g2;clear hs' g3 g4 g5 y u hw0 g6 X;have ge:=Hd g2;clear g2;go_upto_region 15 with fail;go_wp2_with (refine N5 rfl _ _ _ rfl rfl rfl ge.o ?_);have r:=I.o;rw[X4]at r;exact r
end
end Go.Proofs.YtnphndlbfeagbaaGreat
