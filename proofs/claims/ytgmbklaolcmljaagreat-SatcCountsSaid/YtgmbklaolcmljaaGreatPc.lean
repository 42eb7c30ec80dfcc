/- More contracts of the program's functions. -/
import Derived.Test.YtgmbklaolcmljaaGreatP8
import Derived.OrdersHeld
import Derived.KernelRfl
set_option linter.unusedSimpArgs false
set_option linter.unusedVariables false
set_option linter.unusedSectionVars false
set_option linter.unnecessarySimpa false
set_option maxRecDepth 100000
set_option maxHeartbeats 8000000
namespace Go.Proofs.YtgmbklaolcmljaaGreat
open Go.Proofs.Tryz
open Go.RowKit
section
variable {P:Program}{ops:Array Oper}{S:World->Prop}{Q:Exit->Act->World->Prop}{last:Bool}
theorem mix_call {o:Oper}{r:List (Option Oper×Bool)}{a:Act}{w:World}{v:Value}{f:FuncId}{args:Array Value}(hg:o.guard=none)
 (he:(execOp a.eval o).run P w=.ok (.enter f args) w) (hc:Calls P f args w fun e w'=>e=.returned v/\S w')
 (h:∀ w',S w'->Zcm P ops Q S last r (a.put o.dst v) w'):Zcm P ops Q S last ((some o,true)::r) a w:=by
 have hw:Region.wanted o (yielded ops a.tmps)=true:=by simp[Region.wanted,hg]
 unfold Zcm;simp only[hw,if_true,Oper.wp,he,Oper.upon];exact hc.mono fun e w' ⟨h1,h2⟩=>by subst h1;exact⟨.inr h2,h w' h2⟩
end
open Go.RowKit

theorem handles_any {F:Phi}{o:Own}{w:World}{mb:Nat}{m:ManD}(h:Zed F o w mb m) :
 Calls prog 81 #[.pointer (some ⟨mb,0,none⟩)] w fun x w'=>x=.returned (.int .i64 m.hs.length)/\w=w':=by
 obtain⟨s,h⟩:=h;obtain⟨c0,c1,c2,c3,c4,c5,f0⟩:=cells6 h.blk;have hl:=h.map.size (P:=prog) underlying114 3;have e:(encH m.hs).length=m.hs.length:=by simp[encH]
 rw[e] at hl;clear h e
 go_enter func81,ntmps81
 go_wp2_with fail;go_ret;exact⟨rfl,rfl⟩
open Go.RowKit
theorem eval_yes {F:Phi}{o:Own}{w:World}{mb:Nat}{m:ManD}{V:Nat->BF}(h:Zed F o w mb m)(hlt:Zah o w)(hk:Zv6 m V){k:Int}{f:Nat}(hkf:(k,f)∈m.hs)(a:Option Addr)(c:Nat)(bs:List Bool)(hbs:Zf8 w a bs) :
 Calls prog 91 #[.pointer (some ⟨mb,0,none⟩),.int .i64 k,.slice a bs.length c] w fun x w'=>x=.returned (.tuple #[.bool (ef V f (Zdc bs)),.int .i64 0])/\Below w.heap.size w w':=by
 obtain⟨s,h⟩:=h;obtain⟨c0,c1,c2,c3,c4,c5,f0⟩:=cells6 h.blk;have gp:=Zif h hk.handles.nodup hkf;have HM:=Hd h;have gi:=Hd hlt;have HK:=Hd hk.store;have gm:=Hd (hk.handles.ok _ hkf);have gs:=Hd hbs;have gt:=hbs.len;clear h hlt hk hkf hbs
 go_enter func91,ntmps91
 go_wp2_with fail
 go_loopg [8] (m.d.vars.length-lvE m.d.vars.length (levN m.d) (Zaa m.d) f) (fun gk s8 wx=>∃ e:Nat,s8=.int .i64 e/\okE (Zaa m.d) e/\ef V e (Zdc bs)=ef V f (Zdc bs)/\Below w.heap.size w wx/\gk=m.d.vars.length-lvE m.d.vars.length (levN m.d) (Zaa m.d) e)
 case atStart=>exact⟨f,rfl,gm.out,rfl,Below.refl _ _,rfl⟩
 case round =>
  obtain⟨e,rfl,g0,gc,hB,gb⟩:=hrel;clear c0 c1 c2 c3 c4 c5 f0 gp;have hm:=HM.out.below gi.out hB;obtain⟨c0,c1,c2,c3,c4,c5,f0⟩:=cells6 hm.blk;have gd:e<eMax:=by
   obtain⟨ss,go⟩:=hm.store;have:=go.edge_lt g0;unfold eMax;omega
  have HC:=Hd (fun W=>Zpc e W gd);have HA:=Hd (Zjc hm.store (gi.out.mono hB.size) HK.out e g0);have g5:=Hd gc;have HB:=Hd hB;have g4:=Hd gb;clear hm gd gc hB gb;cases hb:Zaa m.d (e/2) with
  | none =>
    have h0:e/2=0:=by
     rcases g0 with h|⟨b,gh⟩
     . exact h
     . rw[hb] at gh;cases gh
    have he:decide (enode e=0)=true:=by simp[enode,h0]
    rw[he] at HC;have HR:Hid (ef V f (Zdc bs)=((e:Int) == 0)):=by
     show _=_
     rw[<- g5.out];have h1:=HK.out.dag.one (Zdc bs);have h2:e=0\/e=1:=by omega
     rcases h2 with rfl|rfl<;>simp[ef,h1]
    clear g0 hb h0 he;go_wp2_with fail;refine(HC.out _).mono ?_;rintro x w' ⟨rfl,rfl⟩;go_wp2_with fail
    go_ret2
    exact⟨by rw[HR.out];rfl,HB.out⟩
  | some b =>
    have g8:=HK.out.dag.var _ _ hb;have g6:lvE m.d.vars.length (levN m.d) (Zaa m.d) e=levN m.d b.v:=by unfold lvE;rw[hb]
    have ge:=Zcs HK.out g0 g8 (by rw[g6];exact Nat.le_refl _);have gf:cofs m.d e b.v=(eflip b.lo (eneg e),eflip b.hi (eneg e)):=by unfold cofs;rw[hb];simp
    rw[gf] at ge;obtain⟨k1,k2,k3,k4,k5⟩:=ge;have k5:=k5 (Zdc bs);dsimp only at k1 k2 k3 k4 k5;have g7:=HK.out.dag.lt _ g8;have ga:decide (enode e=0)=false:=by
     have:enode e≠0:=by rintro h0;have h1:e/2=0:=h0;rw[h1,HK.out.dag.none0] at hb;cases hb
     simp[this]
    rw[ga] at HC;unfold atV at HA;rw[hb] at HA;obtain⟨L,hL⟩:∃ L,L=eflip b.lo (eneg e):=⟨_,rfl⟩;obtain⟨H,hH⟩:∃ H,H=eflip b.hi (eneg e):=⟨_,rfl⟩;rw[<- hL,<- hH] at k5;rw[<- hL] at k1 k3;rw[<- hH] at k2 k4;dsimp only at HA;rw[<- hL,<- hH] at HA;rw[g6] at g4;have gl:=Hd k1;have gr:=Hd k2;have gj:=Hd k3;have gq:=Hd k4;have g1:=Hd k5;have g9:=Hd g7;clear g0 hb g8 g6 gf k1 k2 k3 k4 k5 g7 ga hL hH;go_wp2_with fail;refine(HC.out _).mono ?_;rintro x w' ⟨rfl,rfl⟩;go_wp2_with fail;refine HA.out.mono ?_;rintro x w2 ⟨rfl,gg⟩;have HB2:=Hd (HB.out.trans (gg.mono HB.out.size));clear gg c0 c1 c2 c3 c4 c5 f0
    by_cases hv:b.v<bs.length
    ·obtain⟨b0,off,ha,g2⟩:=(gs.out.below HB2.out).cells b.v hv;subst ha;have gn:(b.v:Int)<bs.length:=by omega
     have hx:Zdc bs b.v=bs.getD b.v false:=rfl;rw[<- hx] at g2;cases g3:Zdc bs b.v with
     | true =>
       rw[g3] at g2 g1;clear g3 hx;go_wp2_with fail
       go_roundg (m.d.vars.length-lvE m.d.vars.length (levN m.d) (Zaa m.d) H)
       case rel=>exact⟨H,rfl,gr.out,by rw[<- g5.out,g1.out];rfl,HB2.out,rfl⟩
       case measure=>have h1:=g4.out;have h2:=gq.out;have h3:=g9.out;omega
     | false =>
       rw[g3] at g2 g1;clear g3 hx;go_wp2_with fail
       go_roundg (m.d.vars.length-lvE m.d.vars.length (levN m.d) (Zaa m.d) L)
       case rel=>exact⟨L,rfl,gl.out,by rw[<- g5.out,g1.out];rfl,HB2.out,rfl⟩
       case measure=>have h1:=g4.out;have h2:=gj.out;have h3:=g9.out;omega
    ·have gn:¬ (b.v:Int)<bs.length:=by omega
     have hx:Zdc bs b.v=false:=by unfold Zdc;simp[List.getD,List.getElem?_eq_none (Nat.le_of_not_lt hv)]
     rw[hx] at g1;clear hx;go_wp2_with fail
     go_roundg (m.d.vars.length-lvE m.d.vars.length (levN m.d) (Zaa m.d) L)
     case rel=>exact⟨L,rfl,gl.out,by rw[<- g5.out,g1.out];rfl,HB2.out,rfl⟩
     case measure=>have h1:=g4.out;have h2:=gj.out;have h3:=g9.out;omega
open Go.RowKit
theorem truth_any (i v:Nat)(hi:i<=1048576)(hv:v<=20)(w:World):Calls prog 82 #[.int .i64 i,.int .i64 v] w fun x w'=>x=.returned (.bool (bitB i v))/\w=w':=by
 have HB:=Hd (Ycs v hv w);have g0:0<2^v:=Nat.pow_pos (by omega);have g2:=Zle hv;obtain⟨p,hp⟩:∃ p,p=2^v:=⟨_,rfl⟩;rw[<- hp] at g0 g2 HB;have g1:i/p<=i:=Nat.div_le_self _ _;have HF:Hid (((wrap64 ((i:Int)/(p:Int))).tmod 2 == 1)=bitB i v):=by
  refine Hd ?_;unfold bitB;rw[<- hp];have e0:(i:Int)/(p:Int)=((i/p:Nat):Int):=rfl;rw[e0]
  generalize i/p=q at g1 ⊢
  rw[IntWalk.wrap64_in _ (by omega)];have e1:Int.tmod (q:Int) 2=((q%2:Nat):Int):=by rw[Int.tmod_eq_emod_of_nonneg (by omega)];rfl
  rw[e1]
  by_cases h:q%2=1
  . rw[h];rfl
  ·have:((q%2:Nat):Int)≠1:=by omega
   rw[beq_eq_false_iff_ne.2 this,decide_eq_false h]
 clear hp
 go_enter func82,ntmps82
 go_wp2_with fail;refine HB.out.mono ?_;rintro x w' ⟨rfl,rfl⟩;go_wp2_with fail;go_ret;exact⟨by rw[<- HF.out];rfl,rfl⟩
theorem list_take_set {α:Type}{l m:List α}{k:Nat}{y:α}(hk:k<l.length)(hm:k<m.length)(hy:m[k]=y):(m.take k++l.drop k).set k y=m.take (k+1)++l.drop (k+1):=by
 have h1:(m.take k).length=k:=by simp;omega
 rw[List.set_append_right _ _ (by omega),h1,Nat.sub_self,List.drop_eq_getElem_cons hk,List.set_cons_zero,List.take_succ_eq_append_getElem hm,hy,List.append_assoc];rfl
theorem hold02_any (n:Nat)(hn:n<=64)(w:World):Calls prog 51 #[.int .i64 n,.int .i64 0,.int .i64 64] w fun x w'=>x=.returned (.int .i64 n)/\w=w':=by
 go_enter func51,ntmps51
 go_wp2_with fail;go_ret;exact⟨rfl,rfl⟩
theorem refOf_any (i n:Nat)(hi:i<=1048576)(hn:n<=16)(w:World):Calls prog 137 #[.int .u64 i,.int .i64 n] w fun x w'=>∃ v,x=.returned v/\OwnB w' w.heap.size v (Zdb i n)/\Below w.heap.size w w':=by
 have HH:Hid (∀ W,Calls prog 51 #[.int .i64 (n:Nat),.int .i64 0,.int .i64 64] W fun x w'=>x=.returned (.int .i64 (n:Nat))/\W=w'):=Hd fun W=>hold02_any n (by omega) W
 go_enter func137,ntmps137
 go_wp2_with fail
 go_loopw [0,5,6] (fun s0 s5 s6 wr=>∃ j q:Nat,j<=n/\q<=1048576/\s6=.int .i64 j/\s0=.int .u64 q/\Hid (i/2^j=q)/\OwnB wr w.heap.size s5 (Zdb i j)/\w.heap.size<=wr.heap.size/\Below w.heap.size w wr) (fun _ _ s6 _=>n-(intOf s6).toNat)
 case atStart=>exact⟨0,i,Nat.zero_le _,hi,rfl,rfl,Hd (by simp),Ze2 _ w _ (Nat.le_refl _),by simp,Zaf w _⟩
 case round =>
  obtain⟨j,q,hj,hq,rfl,rfl,HQ,g0,g5,g1⟩:=hrel
  by_cases g7:j<n
  ·have HB:Hid (((q:Int).tmod 2 == 1)=bitB i j):=by
    refine Hd ?_
    show ((q:Int).tmod 2 == 1)=bitB i j
    unfold bitB;rw[HQ.out];have e1:Int.tmod (q:Int) 2=((q%2:Nat):Int):=by rw[Int.tmod_eq_emod_of_nonneg (by omega)];rfl
    rw[e1]
    by_cases h:q%2=1
    . rw[h];rfl
    ·have:((q%2:Nat):Int)≠1:=by omega
     rw[beq_eq_false_iff_ne.2 this,decide_eq_false h]
   have g2:=Hd g0;have g3:=Hd g1;clear g0 g1;go_wp2_with fail;refine(HH.out _).mono ?_;rintro x w2 ⟨rfl,rfl⟩;go_wp2_with (at_builtin;refine Zcl Zj7 _ rfl _ _ rfl w.heap.size _ (Zb4 (Zdb i j)) _ rfl rfl rfl rfl rfl (by exact g2.out) (by simp[Zb4,Zjl];omega) g5 ?_;intro v1 w1 g4 e1 e2 e3 e4 g6);go_roundw
   case rel =>
    refine⟨j+1,q/2,by omega,by omega,by go_num,rfl,Hd ?_,?_,by omega,Zh7 g3.out g2.out e1 e2 e3 e4 g6 g5⟩
    . rw[Nat.pow_succ,<- Nat.div_div_eq_div_mul,HQ.out]
    ·rw[Zuh];have e5:Zb4 (Zdb i j++[bitB i j])=Zb4 (Zdb i j)++[.bool (bitB i j)]:=by simp[Zb4]
     unfold OwnB;rw[e5,<- HB.out];exact g4
   case measure=>simp[intOf];omega
  ·have he:j=n:=by omega
   subst he;have g2:=Hd g0;have g3:=Hd g1;clear g0 g1;go_wp2_with fail;refine(HH.out _).mono ?_;rintro x w2 ⟨rfl,rfl⟩;go_wp2_with fail;go_ret;exact⟨_,rfl,g2.out,g3.out⟩
open Go.RowKit
section
variable {K:Law}{n:Nat}{Od:List Nat->Prop}{room:Nat}{w0 w:World}{mb:Nat}{fs:List (Int×BF)}{nx:Int}{o:Own}{m:ManD}{V:Nat->BF}
theorem SatE.eval (h:SatE K n Od room w0 mb fs nx w o m V){k:Int}{F:BF}(hk:(k,F)∈fs){v:Value}{bs:List Bool}(hbs:Zdf w v bs) :
 Calls prog 91 #[.pointer (some ⟨mb,0,none⟩),.int .i64 k,v] w fun x w'=>x=.returned (.tuple #[.bool (F (Zdc bs)),.int .i64 0])/\Below w.heap.size w w':=by
 obtain⟨f,hf,e1⟩:=h.find hk;obtain⟨a,c,rfl,h1,_⟩:=hbs;rw[<- e1];exact eval_yes h.is h.lt h.ok hf a c bs h1
theorem SatE.vars_any (h:SatE K n Od room w0 mb fs nx w o m V):Calls prog 69 #[.pointer (some ⟨mb,0,none⟩)] w fun x w'=>x=.returned (.int .i64 n)/\w=w':=by
 have:=Zdw h.is;rw[h.vars] at this;exact this
theorem SatE.handles_any (h:SatE K n Od room w0 mb fs nx w o m V):Calls prog 81 #[.pointer (some ⟨mb,0,none⟩)] w fun x w'=>x=.returned (.int .i64 (fs.length:Nat))/\w=w':=by
 have e:fs.length=m.hs.length:=by rw[<- h.hs,List.length_map]
 rw[e];exact Go.Proofs.YtgmbklaolcmljaaGreat.handles_any h.is
theorem left_any (h:SatE K n Od room w0 mb fs nx w o m V)(q:Nat)(hq:q<=1000000) :
 Calls prog 27 #[.pointer (some ⟨mb,0,none⟩),.int .i64 q] w fun x w'=>x=.returned (.bool (decide (fs.length=q+2)))/\w=w':=by
 have HH:=Hd h.handles_any;have HF:Hid ((((fs.length:Nat):Int) == (q:Int)+2)=decide (fs.length=q+2)):=by
  refine Hd ?_
  show (((fs.length:Nat):Int) == (q:Int)+2)=_
  by_cases e:fs.length=q+2
  . rw[decide_eq_true e,beq_iff_eq];omega
  . rw[decide_eq_false e,beq_eq_false_iff_ne];omega
 clear h
 go_enter func27,ntmps27
 go_wp2_with fail;refine HH.out.mono ?_;rintro x w' ⟨rfl,rfl⟩;go_wp2_with fail;go_ret;exact⟨by rw[<- HF.out];rfl,rfl⟩
theorem conv_u64 (i:Nat)(hi:i<=1048576):(IntKind.u64).wrap (i:Int)=(i:Int):=by
 simp[IntKind.wrap,IntKind.bits];omega
theorem is_any (h:SatE K n Od room w0 mb fs nx w o m V)(hn:n<=16){k:Int}{F:BF}(hk:(k,F)∈fs){v:Value}{bs:List Bool}(hbs:Zdf w v bs) :
 Calls prog 88 #[.pointer (some ⟨mb,0,none⟩),.int .i64 k,v] w fun x w'=>∃ b,x=.returned (.bool b)/\(b=true↔bs=tabB n F)/\Below w.heap.size w w':=by
 have HV:=Hd h.vars_any;have HC:=Hd (Zqn false n hn w);have gk:Hid (∀ W,Below w.heap.size w W->∀ u cs,Zdf W u cs->Calls prog 91 #[.pointer (some ⟨mb,0,none⟩),.int .i64 k,u] W fun x w'=>x=.returned (.tuple #[.bool (F (Zdc cs)),.int .i64 0])/\Below W.heap.size W w') :=
  Hd fun W hb u cs hu=>(h.below hb).eval hk hu
 have gj:Hid (∀ i,i<=1048576->∀ W,Calls prog 137 #[.int .u64 (i:Nat),.int .i64 n] W fun x w'=>∃ v,x=.returned v/\OwnB w' W.heap.size v (Zdb i n)/\Below W.heap.size W w'):=Hd fun i hi W=>refOf_any i n hi hn W
 obtain⟨a,c,rfl,gc,gg⟩:=hbs;have gl:=Hd gc;have go:=gc.len;have hp:=Zle (show n<=20 by omega);obtain⟨L,hL⟩:∃ L,L=2^n:=⟨_,rfl⟩;have HL:=Hd hL;rw[<- hL] at hp HC;clear h hL gc gg
 go_enter func88,ntmps88
 go_wp2_with fail;refine HV.out.mono ?_;rintro x w' ⟨rfl,rfl⟩;go_wp2_with fail;refine HC.out.mono ?_;rintro x w1 ⟨g,rfl,_,g5⟩
 by_cases g1:bs.length=L
 ·have gh:((bs.length:Int) != (L:Int))=false:=by rw[g1];simp
  have ge:=Hd g5;clear g5 HC HV;go_wp2_with fail
  go_loopw [8,21] (fun s8 s21 wr=>∃ j:Nat,j<=L/\s21=.int .i64 j/\Below w.heap.size w wr/\Hid (∀ q,q<j->bs.getD q false=F (Zdc (Zdb q n)))) (fun _ s21 _=>L-(intOf s21).toNat)
  case atStart=>exact⟨0,Nat.zero_le _,rfl,ge.out,Hd fun q hq=>by omega⟩
  case round =>
   obtain⟨j,hj,rfl,g2,HQ⟩:=hrel
   by_cases gi:j<L
   ·have g0:=Hd g2;clear g2;have gn:=conv_u64 j (by omega);have gm:(j:Int)<bs.length:=by omega
    obtain⟨b1,of1,rfl,c1⟩:=(gl.out.below g0.out).cells j (by omega);go_wp2_with fail;refine(gj.out j (by omega) _).mono ?_;rintro x w3 ⟨u,rfl,g9,gb⟩;have gd:=Hd gb;have c3:=(gb.cell (p:=⟨b1,of1+j,none⟩) (Zab c1)).trans c1;have HU:=Hd (g9.boolsIs (by rw[Zjl];omega));clear g9 gb c1;go_wp2_with fail;refine(gk.out _ (g0.out.trans (gd.out.mono g0.out.size)) _ _ HU.out).mono ?_;rintro x w4 ⟨rfl,ga⟩;have c4:=(ga.cell (p:=⟨b1,of1+j,none⟩) (Zab c3)).trans c3;have g7:=Hd (g0.out.trans ((gd.out.trans (ga.mono gd.out.size)).mono g0.out.size));clear ga c3;obtain⟨y1,g4⟩:∃ y,y=bs.getD j false:=⟨_,rfl⟩;obtain⟨y2,g3⟩:∃ y,y=F (Zdc (Zdb j n)):=⟨_,rfl⟩;rw[<- g4] at c4;rw[<- g3];have gf:Hid (y2=y1->∀ q,q<j+1->bs.getD q false=F (Zdc (Zdb q n))):=Hd fun g8 q hq=>by
     rcases Nat.lt_or_ge q j with h|h
     . exact HQ.out q h
     ·obtain rfl:q=j:=by omega
      rw[<- g4,<- g3,g8]
    have g6:Hid (y2≠y1->bs≠tabB n F):=Hd fun g8 e=>g8 (by rw[g4,g3,e,Zot (by rw[<- HL.out];exact gi)])
    clear g4 g3;cases y1<;>cases y2
    ·go_wp2_with fail;go_roundw
     case rel=>exact⟨j+1,by omega,by go_num,g7.out,Hd (gf.out (by simp))⟩
     case measure=>simp[intOf];omega
    . go_wp2_with fail;go_ret;exact⟨false,rfl,by simpa using g6.out (by simp),g7.out⟩
    . go_wp2_with fail;go_ret;exact⟨false,rfl,by simpa using g6.out (by simp),g7.out⟩
    ·go_wp2_with fail;go_roundw
     case rel=>exact⟨j+1,by omega,by go_num,g7.out,Hd (gf.out (by simp))⟩
     case measure=>simp[intOf];omega
   ·have he:j=L:=by omega
    have g0:=Hd g2;have HE:Hid (bs=tabB n F):=Hd (Yd5 (by rw[g1,HL.out]) (fun i hi=>HQ.out i (by rw[he,HL.out];exact hi)));clear g2;go_wp2_with fail;go_ret;exact⟨true,rfl,by simpa using HE.out,g0.out⟩
 ·have gh:((bs.length:Int) != (L:Int))=true:=by simp;omega
  have ge:=Hd g5;have g6:Hid (bs≠tabB n F):=Hd fun e=>g1 (by rw[e,Zf2,HL.out])
  clear g5 HC HV g1;go_wp2_with fail;go_ret;exact⟨false,rfl,by simpa using g6.out,ge.out⟩
end
theorem Yeh.below {P:Nat->Prop}{w w':World}{a:Option Addr}{us:List (List Bool)}(h:Yeh P w a us)(hb:Below w.heap.size w w'):Yeh P w' a us :=
 ⟨h.len,fun k hk=>by
  obtain⟨b,off,v,rfl,hc,hv,hp⟩:=h.cells k hk;exact⟨b,off,v,rfl,(hb.cell (p:=⟨b,off+k,none⟩) (Zab hc)).trans hc,hv.below hb,hp⟩⟩
section
variable {K:Law}{n:Nat}{Od:List Nat->Prop}{room:Nat}{w0 w:World}{mb:Nat}{fs:List (Int×BF)}{nx:Int}{o:Own}{m:ManD}{V:Nat->BF}
theorem all_any (h:SatE K n Od room w0 mb fs nx w o m V)(hn:n<=16){vl vx:Value}{hs:List (Int×BF)}{P:Nat->Prop}(hr:LawR P n fs w vl vx hs) :
 Calls prog 32 #[.pointer (some ⟨mb,0,none⟩),vl,vx] w fun x w'=>x=.returned (.bool true)/\Below w.heap.size w w':=by
 obtain⟨al,cl,rfl,hl⟩:=hr.l;obtain⟨ax,cx,rfl,hx⟩:=hr.x;have HL:=Hd hl;have HX:=Hd hx;have ga:=hr.small;have g8:Hid (∀ W,Below w.heap.size w W->∀ j v,∀ hj:j<hs.length,Zdf W v (tabB n hs[j].2)->Calls prog 88 #[.pointer (some ⟨mb,0,none⟩),.int .i64 hs[j].1,v] W fun x w'=>x=.returned (.bool true)/\Below W.heap.size W w'):=by
  refine Hd fun W hb j v hj hv=>(is_any (h.below hb) hn (hr.sub _ (List.getElem_mem hj)) hv).mono ?_
  rintro x w' ⟨b,rfl,g6,g5⟩;rw[g6.2 rfl];exact⟨rfl,g5⟩
 clear h hr hl hx
 go_enter func32,ntmps32
 go_wp2_with fail
 go_loopw [7,10] (fun s7 s10 wr=>∃ j:Nat,j<=hs.length/\s10=.int .i64 j/\Below w.heap.size w wr) (fun _ s10 _=>hs.length-(intOf s10).toNat)
 case atStart=>exact⟨0,Nat.zero_le _,rfl,Below.refl _ _⟩
 case round =>
  obtain⟨j,hj,rfl,g1⟩:=hrel
  by_cases g2:j<hs.length
  ·obtain⟨b1,of1,rfl,c1⟩:=(HL.out.below g1).cells j (by simpa using g2);obtain⟨b2,of2,v2,rfl,c2,g3,_⟩:=(HX.out.below g1).cells j (by simpa using g2);have e1:at0 (hs.map Prod.fst) j=hs[j].1:=by rw[Zbw (by simpa using g2)];simp
   have e2:(hs.map fun p=>tabB n p.2).getD j []=tabB n hs[j].2:=by simp[List.getD,g2]
   rw[e1] at c1;rw[e2] at g3;have g7:=Hd g3;have g0:=Hd g1;obtain⟨k1,g4⟩:∃ k1,k1=hs[j].1:=⟨_,rfl⟩;have HI:Hid (∀ W,Below w.heap.size w W->∀ v,Zdf W v (tabB n hs[j].2)->Calls prog 88 #[.pointer (some ⟨mb,0,none⟩),.int .i64 k1,v] W fun x w'=>x=.returned (.bool true)/\Below W.heap.size W w'):=by
    rw[g4];exact Hd fun W hb v hv=>g8.out W hb j v g2 hv
   rw[<- g4] at c1;clear g3 g1 e1 e2 g4;have gb:(j:Int)<(hs.length:Int):=by omega
   go_upto_region 4 with fail;refine Zam (fun W:World=>W.cell? ⟨b1,of1+j,none⟩=some (.int .i64 k1)/\W.cell? ⟨b2,of2+j,none⟩=some v2/\Hid (Below w.heap.size w W)) false 11 [(0,false),(1,false),(2,false),(3,false),(4,false),(5,false),(6,false),(7,false),(8,false),(9,true),(10,false)] (by kernel_rfl) (by kernel_rfl) ⟨c1,c2,Hd (g0.out.trans ((Zag wr 1).mono g0.out.size))⟩ ?_;simp only[planned,Zdx]
   iterate 9
    refine Zao rfl ?_;apply Exists.intro;refine⟨fun w' hw=>?_,?_⟩
    . obtain⟨h1,h2,_⟩:=hw;go_simp;rfl
    simp only[Zai]
   refine mix_call (v:=.bool true) rfl (by go_simp) ((HI.out wr.drew (g0.out.trans ((Zag wr 1).mono g0.out.size)) v2 (g7.out.below (Zag wr 1))).mono ?_) ?_
   . rintro x w' ⟨rfl,hb⟩;exact⟨rfl,(hb.cell (p:=⟨b1,of1+j,none⟩) (Zab (w:=wr.drew) c1)).trans c1,(hb.cell (p:=⟨b2,of2+j,none⟩) (Zab (w:=wr.drew) c2)).trans c2,Hd (g0.out.trans (((Zag wr 1).trans (hb.mono (Zag wr 1).size)).mono g0.out.size))⟩
   rintro w' ⟨_,_,g9⟩;simp only[Zai]
   iterate 1
    refine Zao rfl ?_;apply Exists.intro;refine⟨fun w' hw=>?_,?_⟩
    . obtain⟨h1,h2,_⟩:=hw;go_simp;rfl
    simp only[Zai]
   refine Ze8 ?_;clear g0 c1 c2;go_wp2_with fail;go_roundw
   case rel=>exact⟨j+1,by omega,by go_num,g9.out⟩
   case measure=>simp[intOf];omega
  . have g0:=Hd g1;clear g1;go_wp2_with fail;go_ret;exact⟨rfl,g0.out⟩
end
open Go.RowKit
theorem refSame13_any (bx bz:List Bool)(hlen:bz.length=bx.length)(ax az:Option Addr)(cx cz:Nat)(w:World)(h1:Zf8 w ax bx)(h2:Zf8 w az bz) :
 Calls prog 43 #[.slice ax bx.length cx,.slice az bx.length cz] w fun x w'=>x=.returned (.bool (decide (bx=bz)))/\Below w.heap.size w w':=by
 have H1:=Hd h1;have H2:=Hd h2;have hl:=h1.len;have g7:=Hd hlen;obtain⟨L,hL⟩:∃ L,L=bx.length:=⟨_,rfl⟩;have HL:=Hd hL;rw[<- hL] at hl ⊢;clear h1 h2 hL hlen
 go_enter func43,ntmps43
 go_wp2_with fail
 go_loopw [4,5] (fun s4 s5 wr=>∃ j:Nat,j<=L/\s5=.int .i64 j/\Hid (Below w.heap.size w wr)/\Hid (∀ q,q<j->bx.getD q false=bz.getD q false)) (fun _ s5 _=>L-(intOf s5).toNat)
 case atStart=>exact⟨0,Nat.zero_le _,rfl,Hd (Below.refl _ _),Hd fun q hq=>by omega⟩
 case round =>
  obtain⟨j,hj,rfl,HB,HQ⟩:=hrel
  by_cases g4:j<L
  ·obtain⟨b1,of1,rfl,c1⟩:=(H1.out.below HB.out).cells j (by rw[<- HL.out];exact g4);obtain⟨b2,of2,rfl,c2⟩:=(H2.out.below HB.out).cells j (by rw[g7.out,<- HL.out];exact g4);have g2:=Hd (HB.out.trans ((Zag wr 1).mono HB.out.size));have g9:(j:Int)<(L:Int):=by omega
   obtain⟨y1,g1⟩:∃ y,y=bx.getD j false:=⟨_,rfl⟩;obtain⟨y2,g0⟩:∃ y,y=bz.getD j false:=⟨_,rfl⟩;rw[<- g1] at c1;rw[<- g0] at c2;have g5:Hid (y1=y2->∀ q,q<j+1->bx.getD q false=bz.getD q false):=Hd fun e q hq=>by
    rcases Nat.lt_or_ge q j with h|h
    . exact HQ.out q h
    ·obtain rfl:q=j:=by omega
     rw[<- g1,<- g0,e]
   have g6:Hid (y1≠y2->bx≠bz):=Hd fun g8 e=>g8 (by rw[g1,g0,e])
   clear g1 g0;go_upto_region 6 with fail;refine Zam (fun W:World=>W.cell? ⟨b1,of1+j,none⟩=some (.bool y1)/\W.cell? ⟨b2,of2+j,none⟩=some (.bool y2)) false 9
    [(0,false),(1,false),(2,false),(3,false),(4,false),(5,false),(6,false),(7,false),(8,false)] (by kernel_rfl) (by kernel_rfl) ⟨c1,c2⟩ ?_
   simp only[planned,Zdx]
   iterate 9
    refine Zao rfl ?_;apply Exists.intro;refine⟨fun w' hw=>?_,?_⟩
    . obtain⟨h1,h2⟩:=hw;go_simp;rfl
    simp only[Zai]
   refine Ze8 ?_;clear c1 c2;cases y1<;>cases y2
   ·have g3:=Hd (g5.out rfl);go_wp2_with fail;go_roundw
    case rel=>exact⟨j+1,by omega,by go_num,g2,g3⟩
    case measure=>simp[intOf];omega
   . have HF:Hid (Ending.returned (.bool false)=.returned (.bool (decide (bx=bz)))):=Hd (by rw[decide_eq_false (g6.out (by simp))]);go_wp2_with fail;go_ret;exact⟨HF.out,g2.out⟩
   . have HF:Hid (Ending.returned (.bool false)=.returned (.bool (decide (bx=bz)))):=Hd (by rw[decide_eq_false (g6.out (by simp))]);go_wp2_with fail;go_ret;exact⟨HF.out,g2.out⟩
   ·have g3:=Hd (g5.out rfl);go_wp2_with fail;go_roundw
    case rel=>exact⟨j+1,by omega,by go_num,g2,g3⟩
    case measure=>simp[intOf];omega
  ·have HF:Hid (Ending.returned (.bool true)=.returned (.bool (decide (bx=bz)))):=Hd (by
    rw[decide_eq_true];refine List.ext_getElem g7.out.symm fun i h1 h2=>?_
    have:=HQ.out i (by have:=HL.out;omega);simpa [List.getD,h1,h2] using this)
   have g9:¬ (j:Int)<(L:Int):=by omega
   go_wp2_with fail;go_ret;exact⟨HF.out,HB.out⟩
open Go.RowKit
theorem bit_low {u v x r:Nat}(hu:u<v):bitB (2^v*x+r) u=bitB r u:=by
 obtain⟨k,rfl⟩:∃ k,v=u+(k+1):=⟨v-u-1,by omega⟩;unfold bitB;have e1:(2:Nat)^(u+(k+1))*x=2^u*(2*(2^k*x)):=by rw[Nat.pow_add,Nat.pow_succ];ac_rfl
 rw[e1,Nat.mul_add_div (Nat.pow_pos (by omega)),Nat.mul_add_mod]
theorem bit_at {v q c r:Nat}(hr:r<2^v)(hc:c<2):bitB (2^v*(2*q+c)+r) v=decide (c=1):=by
 unfold bitB;rw[Nat.mul_add_div (Nat.pow_pos (by omega)),Nat.div_eq_of_lt hr,Nat.add_zero,Nat.mul_add_mod,Nat.mod_eq_of_lt hc]
theorem bit_high {u v q c r:Nat}(hr:r<2^v)(hc:c<2)(hu:v<u):bitB (2^v*(2*q+c)+r) u=decide (q/2^(u-v-1)%2=1):=by
 obtain⟨k,rfl⟩:∃ k,u=v+(k+1):=⟨u-v-1,by omega⟩;unfold bitB;have e1:(2:Nat)^(v+(k+1))=2^v*(2*2^k):=by rw[Nat.pow_add,Nat.pow_succ];ac_rfl
 have e2:v+(k+1)-v-1=k:=by omega
 rw[e1,e2,<- Nat.div_div_eq_div_mul,Nat.mul_add_div (Nat.pow_pos (by omega)),Nat.div_eq_of_lt hr,Nat.add_zero,<- Nat.div_div_eq_div_mul];have e3:(2*q+c)/2=q:=by omega
 rw[e3]
def cofI (j v:Nat)(b:Bool):Nat:=if bitB j v && !b then j-2^v else if !bitB j v&&b then j+2^v else j
theorem split_at (j v:Nat):∃ q c r,r<2^v/\c<2/\j=2^v*(2*q+c)+r:=by
 have h:=Nat.div_add_mod j (2^v);refine⟨j/2^v/2,j/2^v%2,j%2^v,Nat.mod_lt _ (Nat.pow_pos (by omega)),by omega,?_⟩;have e:2*(j/2^v/2)+j/2^v%2=j/2^v:=by omega
 rw[e];exact h.symm
theorem cofI_bits (j v:Nat)(b:Bool):∀ u,bitB (cofI j v b) u=if u=v then b else bitB j u:=by
 obtain⟨q,c,r,hr,hc,rfl⟩:=split_at j v;have g1:=bit_at (q:=q) hr hc;have key:∃ c':Nat,c'<2/\decide (c'=1)=b/\cofI (2^v*(2*q+c)+r) v b=2^v*(2*q+c')+r:=by
  unfold cofI;rw[g1];have h2:2^v*(2*q+1)=2^v*(2*q+0)+2^v:=by simp[Nat.mul_add]
  rcases(by omega:c=0\/c=1) with rfl|rfl
  ·cases b with
   | false=>exact⟨0,by omega,rfl,by simp⟩
   | true=>exact⟨1,by omega,rfl,by simp only[Nat.zero_ne_one,decide_false,Bool.not_true,Bool.and_self,Bool.not_false,Bool.false_eq_true,if_false,if_true];omega⟩
  ·cases b with
   | true=>exact⟨1,by omega,rfl,by simp⟩
   | false=>exact⟨0,by omega,rfl,by simp only[decide_true,Bool.not_false,Bool.and_self,if_true];omega⟩
 obtain⟨c',g0,hb,e⟩:=key;intro u;rw[e];rcases Nat.lt_trichotomy u v with h|rfl|h
 . rw[if_neg (by omega),bit_low h,bit_low h]
 . rw[if_pos rfl,bit_at hr g0,hb]
 . rw[if_neg (by omega),bit_high hr g0 h,bit_high hr hc h]
theorem bits_lt {n i:Nat}(h:∀ u,n<=u->bitB i u=false):i<2^n:=by
 rcases Nat.lt_or_ge i (2^n) with h'|h'
 . exact h'
 ·exfalso;have hz:∀ k,i/2^n≠0->(∀ u,n<=u->bitB i u=false)->i/2^n<2^k->False:=by
   intro k
   induction k with
   | zero=>intro h1 _ h2;simp at h2;omega
   | succ k ih =>
     intro h1 h2 h3;refine ih h1 h2 ?_;have hb:=h2 (n+k) (by omega);unfold bitB at hb;rw[decide_eq_false_iff_not] at hb;have e:i/2^(n+k)=i/2^n/2^k:=by rw[Nat.pow_add,Nat.div_div_eq_div_mul]
     rw[e] at hb;have h4:i/2^n/2^k<2:=by
      rw[Nat.div_lt_iff_lt_mul (Nat.pow_pos (by omega))];rw[Nat.pow_succ,Nat.mul_comm] at h3;exact h3
     have h5:i/2^n/2^k=0:=by
      generalize i/2^n/2^k=X at hb h4
      omega
     exact(Nat.div_eq_zero_iff_lt (Nat.pow_pos (by omega))).1 h5
  have h0:i/2^n≠0:=by
   intro e;have:=(Nat.div_eq_zero_iff_lt (Nat.pow_pos (by omega))).1 e;omega
  exact hz (i/2^n) h0 h (Nat.lt_two_pow_self)
theorem cofI_lt {n j v:Nat}{b:Bool}(hj:j<2^n)(hv:v<n):cofI j v b<2^n:=by
 refine bits_lt fun u hu=>?_
 rw[cofI_bits,if_neg (by omega)];unfold bitB;rw[decide_eq_false_iff_not,Nat.div_eq_of_lt (Nat.lt_of_lt_of_le hj (Nat.pow_le_pow_right (by omega) hu))];omega
theorem cof_tab {n:Nat}{F:BF}{j v:Nat}{b:Bool}(hj:j<2^n)(hv:v<n):(tabB n F).getD (cofI j v b) false=cofF F v b (Zdc (Zdb j n)):=by
 rw[Zot (cofI_lt hj hv)];unfold cofF;congr 1;funext u;rw[Zut,cofI_bits,Zut]
 by_cases e:u=v
 . subst e;simp[hv]
 . rw[if_neg e,if_neg e]
open Go.RowKit
theorem refCof_tab (n:Nat)(F:BF)(v:Nat)(b:Bool)(hn:n<=16)(hv:v<n)(au:Option Addr)(cu:Nat)(w:World)(h1:Zf8 w au (tabB n F)) :
 Calls prog 46 #[.slice au (2^n) cu,.int .i64 v,.bool b] w fun x w'=>∃ g,x=.returned (.slice (some ⟨g,0,none⟩) (2^n) (2^n))/\Zdf w' (.slice (some ⟨g,0,none⟩) (2^n) (2^n)) (tabB n (cofF F v b))/\Below w.heap.size w w':=by
 have H1:=Hd h1;have ge:2^n<=1000000:=Zy6 hn;have gi:2^v<=1000000:=Zy6 (by omega);have gn:Hid (∀ i,i<=1048576->∀ W,Calls prog 82 #[.int .i64 (i:Nat),.int .i64 (v:Nat)] W fun x w'=>x=.returned (.bool (bitB i v))/\W=w'):=Hd fun i hi W=>truth_any i v hi (by omega) W
 obtain⟨G,hG⟩:∃ G:Nat->Bool,G=fun i=>cofF F v b (Zdc (Zdb i n)):=⟨_,rfl⟩
 have HT:Hid (tabB n (cofF F v b)=(List.range (2^n)).map G):=Hd (by rw[hG];rfl);have gg:Hid (∀ j,j<2^n->cofI j v b<2^n/\(tabB n F).getD (cofI j v b) false=G j):=Hd fun j hj=>⟨cofI_lt hj hv,by rw[hG];exact cof_tab hj hv⟩
 have gf:Hid ((tabB n F).length=2^n):=Hd (Zf2 n F);rw[HT.out];obtain⟨L,hL⟩:∃ L,L=2^n:=⟨_,rfl⟩;obtain⟨p,hp⟩:∃ p,p=2^v:=⟨_,rfl⟩;have gh:Hid (∀ W,Calls prog 104 #[.int .i64 (v:Nat)] W fun x w'=>x=.returned (.int .i64 (p:Nat))/\W=w'):=Hd fun W=>by rw[hp];exact Ycs v (by omega) W
 have HCI:Hid (∀ j,cofI j v b=if bitB j v && !b then j-p else if !bitB j v&&b then j+p else j):=Hd fun j=>by rw[hp];rfl
 have gp:Hid (∀ j,bitB j v=true->p<=j):=Hd fun j hj=>by
  rcases Nat.lt_or_ge j p with h|h
  . unfold bitB at hj;rw[<- hp,Nat.div_eq_of_lt h] at hj;simp at hj
  . exact h
 rw[<- hL] at ge gg gf ⊢;rw[<- hp] at gi;clear hL hp h1 hG HT
 go_enter func46,ntmps46
 go_wp2_with (at_make;refine Zd8 Zj7 rfl _ _ rfl w.heap.size w _ L rfl rfl rfl (by omega) (Nat.le_refl _) (Below.refl _ _) ?_;intro g w1 g6 gd hs1 g1 gm gl;clear gl)
 go_loopw [8,9] (fun s8 s9 wr=>∃ j:Nat,j<=L/\s8=.int .i64 j/\Hid (OwnB wr w.heap.size (.slice (some ⟨g,0,none⟩) L L) (((List.range L).map G).take j++(List.replicate L false).drop j))/\Hid (Below w.heap.size w wr)) (fun s8 _ _=>L-(intOf s8).toNat)
 case atStart=>exact⟨0,by omega,rfl,Hd (by unfold OwnB;simpa [Zb4] using g6),Hd gd⟩
 case round =>
  clear g6 gd;obtain⟨j,hj,rfl,g3,g5⟩:=hrel
  by_cases ga:j<L
  ·have gk:j<((List.range L).map G).length:=by simp;exact ga
   obtain⟨gb,g9⟩:=gg.out j ga;have g0:=HCI.out j;have g4:=gp.out j;obtain⟨kk,gc⟩:∃ kk,kk=cofI j v b:=⟨_,rfl⟩;rw[<- gc] at gb g9 g0;obtain⟨b1,of1,e1,c1⟩:=(H1.out.below g5.out).cells kk (by rw[gf.out];exact gb);rw[g9] at c1;have q0:=g3.out.cellB j (by simp;omega);have p0:=g3.out.frozen j;subst e1;obtain⟨y,hy⟩:∃ y,y=G j:=⟨_,rfl⟩;rw[<- hy] at c1;have go:Hid (((List.range L).map G)[j]=y):=Hd (by rw[hy];simp);obtain⟨t,ht⟩:∃ t,t=bitB j v:=⟨_,rfl⟩;rw[<- ht] at g0 g4;have g2:Hid (∀ W,Calls prog 82 #[.int .i64 (j:Nat),.int .i64 (v:Nat)] W fun x w'=>x=.returned (.bool t)/\W=w'):=Hd fun W=>by rw[ht];exact gn.out j (by omega) W
   have gr:(kk:Int)<(L:Int):=by omega
   have g7:Hid (OwnB (wr.setCell ⟨g,j,none⟩ (.bool y)) w.heap.size (.slice (some ⟨g,0,none⟩) L L) (((List.range L).map G).take (j+1)++(List.replicate L false).drop (j+1))):=Hd (by
    rw[<- list_take_set (by simp;omega) gk go.out];exact g3.out.setB j y)
   have g8:Hid (Below w.heap.size w (wr.setCell ⟨g,j,none⟩ (.bool y))):=Hd (g5.out.setCell gm _);clear g9 hy ht gc g3 H1;cases t<;>cases b
   ·have g1:kk=j:=by simpa using g0
    subst g1;clear g0 g4;go_wp2_with fail;refine(g2.out _).mono ?_;rintro x w2 ⟨rfl,rfl⟩;go_wp2_with fail;refine(g2.out _).mono ?_;rintro x w2 ⟨rfl,rfl⟩;go_wp2_with fail;go_roundw
    case rel=>exact⟨kk+1,by omega,by go_num,g7,g8⟩
    case measure=>simp[intOf];omega
   ·have g1:kk=j+p:=by simpa using g0
    have gj:(j:Int)+(p:Int)=(kk:Nat):=by omega
    clear g0 g4 g1;go_wp2_with fail;refine(g2.out _).mono ?_;rintro x w2 ⟨rfl,rfl⟩;go_wp2_with fail;refine(g2.out _).mono ?_;rintro x w2 ⟨rfl,rfl⟩;go_wp2_with fail;refine(gh.out _).mono ?_;rintro x w2 ⟨rfl,rfl⟩;go_wp2_with fail;go_roundw
    case rel=>exact⟨j+1,by omega,by go_num,g7,g8⟩
    case measure=>simp[intOf];omega
   ·have g1:kk=j-p:=by simpa using g0
    have:=g4 rfl;have gj:(j:Int)-(p:Int)=(kk:Nat):=by omega
    clear g0 g4 g1;go_wp2_with fail;refine(g2.out _).mono ?_;rintro x w2 ⟨rfl,rfl⟩;go_wp2_with fail;refine(gh.out _).mono ?_;rintro x w2 ⟨rfl,rfl⟩;go_wp2_with fail;refine(g2.out _).mono ?_;rintro x w2 ⟨rfl,rfl⟩;go_wp2_with fail;go_roundw
    case rel=>exact⟨j+1,by omega,by go_num,g7,g8⟩
    case measure=>simp[intOf];omega
   ·have g1:kk=j:=by simpa using g0
    subst g1;clear g0 g4;go_wp2_with fail;refine(g2.out _).mono ?_;rintro x w2 ⟨rfl,rfl⟩;go_wp2_with fail;refine(g2.out _).mono ?_;rintro x w2 ⟨rfl,rfl⟩;go_wp2_with fail;go_roundw
    case rel=>exact⟨kk+1,by omega,by go_num,g7,g8⟩
    case measure=>simp[intOf];omega
  ·obtain rfl:j=L:=by omega
   have gq:((List.range j).map G).length=j:=by simp
   have HF:Hid (Zdf wr (.slice (some ⟨g,0,none⟩) j j) ((List.range j).map G)):=Hd (by
    have h:=g3.out;rw[List.take_of_length_le (by omega),List.drop_of_length_le (by simp),List.append_nil] at h;exact OwnC.boolsIs h (by simp;exact ge))
   go_wp2_with fail;go_ret;exact⟨g,rfl,HF.out,g5.out⟩
theorem refHangs_tab (n:Nat)(F:BF)(v:Nat)(hn:n<=16)(hv:v<n)(au:Option Addr)(cu:Nat)(w:World)(h1:Zf8 w au (tabB n F)) :
 Calls prog 86 #[.slice au (2^n) cu,.int .i64 v] w fun x w'=>x=.returned (.bool (Zbp n F v))/\Below w.heap.size w w':=by
 have HC:Hid (∀ b W,Below w.heap.size w W->Calls prog 46 #[.slice au (2^n) cu,.int .i64 (v:Nat),.bool b] W fun x w'=>∃ g,x=.returned (.slice (some ⟨g,0,none⟩) (2^n) (2^n))/\Zdf w' (.slice (some ⟨g,0,none⟩) (2^n) (2^n)) (tabB n (cofF F v b))/\Below W.heap.size W w') :=
  Hd fun b W hb=>refCof_tab n F v b hn hv au cu W (h1.below hb)
 have g3:Hid (∀ (a1 a2:Nat) W,Zdf W (.slice (some ⟨a1,0,none⟩) (2^n) (2^n)) (tabB n (cofF F v false))->Zdf W (.slice (some ⟨a2,0,none⟩) (2^n) (2^n)) (tabB n (cofF F v true))->Calls prog 43 #[.slice (some ⟨a1,0,none⟩) (2^n) (2^n),.slice (some ⟨a2,0,none⟩) (2^n) (2^n)] W fun x w'=>x=.returned (.bool (decide (tabB n (cofF F v false)=tabB n (cofF F v true))))/\Below W.heap.size W w'):=Hd fun a1 a2 W q1 q2=>by
  obtain⟨b1,d1,e1,k1,_⟩:=q1;obtain⟨b2,d2,e2,k2,_⟩:=q2;injection e1 with e1
  injection e2 with e2
  subst e1 e2;have:=refSame13_any (tabB n (cofF F v false)) (tabB n (cofF F v true)) (by simp[Zf2]) _ _ (2^n) (2^n) W k1 k2;rw[Zf2] at this;exact this
 unfold Zbp;obtain⟨L,hL⟩:∃ L,L=2^n:=⟨_,rfl⟩;rw[<- hL] at HC g3 ⊢;obtain⟨d,hd⟩:∃ d,d=decide (tabB n (cofF F v false)=tabB n (cofF F v true)):=⟨_,rfl⟩;rw[<- hd] at g3 ⊢;clear h1 hL hd
 go_enter func86,ntmps86
 go_wp2_with fail;refine(HC.out false w (Below.refl _ _)).mono ?_;rintro x w1 ⟨g1,rfl,k1,g6⟩;have K1:=Hd k1;have g4:=Hd g6;clear k1 g6;go_wp2_with fail;refine(HC.out true w1 g4.out).mono ?_;rintro x w2 ⟨g2,rfl,k2,g0⟩;have HS:=Hd (g3.out g1 g2 w2 (K1.out.below g0) k2);have HB2:=Hd (g4.out.trans (g0.mono g4.out.size));clear k2 g0 K1;go_wp2_with fail;refine HS.out.mono ?_;rintro x w3 ⟨rfl,g5⟩;have g7:=Hd (HB2.out.trans (g5.mono HB2.out.size));clear g5 HS;go_wp2_with fail;go_ret;exact⟨rfl,g7.out⟩
open Go.RowKit
theorem in19_any {w:World}{a:Option Addr}{c:Nat}{zs:List Int}(hz:Zau w a zs)(v:Int) :
 Calls prog 87 #[.slice a zs.length c,.int .i64 v] w fun x w'=>x=.returned (.bool (decide (v∈zs)))/\w=w':=by
 have HCK:Hid (∀ k,k<zs.length->∃ b off,a=some ⟨b,off,none⟩/\w.cell? ⟨b,off+k,none⟩=some (.int .i64 (at0 zs k))):=Hd hz.cells;have hl:=hz.len;clear hz
 go_enter func87,ntmps87
 go_wp2_with fail
 go_loopw [4,5] (fun _ s5 wr=>∃ k:Nat,k<=zs.length/\s5=.int .i64 (k:Int)/\Hid (w=wr)/\Hid (∀ j,j<k->at0 zs j≠v)) (fun _ s5 _=>zs.length-(intOf s5).toNat)
 case atStart=>exact⟨0,Nat.zero_le _,rfl,Hd rfl,Hd (fun j hj=>by omega)⟩
 case round =>
  obtain⟨k,hk,rfl,HW,HQ⟩:=hrel;have hw:=HW.out;subst hw
  by_cases g0:k<zs.length
  ·have g3:(k:Int)<(zs.length:Int):=by omega
   obtain⟨b,off,rfl,ck⟩:=HCK.out k g0
   by_cases hv:at0 zs k=v
   ·have HF:Hid (decide (v∈zs)=true):=Hd (by
     rw[decide_eq_true];rw[<- hv,Zbw g0];exact List.getElem_mem g0)
    rw[hv] at ck;clear HCK HQ hv;go_wp2_with fail;go_ret;exact⟨by rw[HF.out];rfl,rfl⟩
   ·have g1:Hid (∀ j,j<k+1->at0 zs j≠v):=Hd fun j hj=>by
     rcases(show j<k\/j=k by omega) with e|rfl
     . exact HQ.out j e
     . exact hv
    obtain⟨z,hz⟩:∃ z,z=at0 zs k:=⟨_,rfl⟩;rw[<- hz] at ck hv;clear HCK HQ hz;go_wp2_with fail;go_roundw
    case rel=>exact⟨k+1,by omega,by rw[show ((k+1:Nat):Int)=(k:Int)+1 by omega],Hd trivial,g1⟩
    case measure=>simp[intOf];omega
  ·obtain rfl:k=zs.length:=by omega
   have g2:¬ (zs.length:Int)<(zs.length:Int):=by omega
   have HF:Hid (decide (v∈zs)=false):=Hd (by
    rw[decide_eq_false];intro hv;obtain⟨i,hi,e⟩:=List.getElem_of_mem hv;exact HQ.out i hi (by rw[Zbw hi];exact e))
   clear HCK HQ;go_wp2_with fail;go_ret;exact⟨by rw[HF.out];rfl,rfl⟩
theorem refShare_any {n:Nat}{F:BF}(hn:n<=16){au:Option Addr}{cu:Nat}{w:World}(h1:Zf8 w au (tabB n F)){r:Nat×Nat}(hr:r=if (tabB n F).count true=0 then (0,0) else shr n ((tabB n F).count true)) :
 Calls prog 25 #[.slice au (2^n) cu,.int .i64 (n:Nat)] w fun x w'=>x=.returned (.tuple #[.int .i64 (r.1:Nat),.int .i64 (r.2:Nat)])/\w=w':=by
 obtain⟨P,hP⟩:∃ P:Ending->World->Prop,P=fun x w'=>x=.returned (.tuple #[.int .i64 (r.1:Nat),.int .i64 (r.2:Nat)])/\w=w':=⟨_,rfl⟩
 have gb:=Hd hP;have HR:=Hd hr;have hL:=Zf2 n F;have HCK:=Hd h1.cells;obtain⟨L,g1⟩:∃ L,L=2^n:=⟨_,rfl⟩;have gk:L<=65536:=by rw[g1];exact pow64 hn
 rw[<- g1] at hL ⊢;have HL:=Hd hL;have ge:=Hd g1;rw[<- hP];have g6:Hid ((tabB n F).count true<=L):=Hd (by rw[<- hL];exact List.count_le_length);clear hP hr h1 hL g1
 go_enter func25,ntmps25
 go_wp2_with fail
 go_loopw [6,7] (fun s6 s7 wr=>∃ i cc:Nat,i<=L/\cc<=i/\s7=.int .i64 (i:Int)/\s6=.int .i64 (cc:Int)/\Hid (cc=((tabB n F).take i).count true)/\Hid (w=wr)) (fun _ s7 _=>L-(intOf s7).toNat)
 case atStart=>exact⟨0,0,Nat.zero_le _,Nat.le_refl _,rfl,rfl,Hd (by simp),Hd rfl⟩
 case round =>
  obtain⟨i,cc,hi,gd,rfl,rfl,HQ,HW⟩:=hrel;have hw:=HW.out;subst hw
  by_cases g9:i<L
  ·have gh:(i:Int)<(L:Int):=by omega
   obtain⟨b,off,rfl,ck⟩:=HCK.out i (by rw[HL.out];exact g9);have hs:=Yeg (l:=tabB n F) (i:=i) (by rw[HL.out];exact g9);rw[<- HQ.out] at hs;cases hx:(tabB n F).getD i false with
   | true =>
     rw[hx,if_pos rfl] at hs;rw[hx] at ck;have HS:=Hd hs.symm;clear hs hx HCK HQ HR g6;go_wp2_with fail;go_roundw
     case rel=>exact⟨i+1,cc+1,by omega,by omega,by rw[show ((i+1:Nat):Int)=(i:Int)+1 by omega],by rw[show ((cc+1:Nat):Int)=(cc:Int)+1 by omega],HS,Hd trivial⟩
     case measure=>simp[intOf];omega
   | false =>
     rw[hx,if_neg (by simp),Nat.add_zero] at hs;rw[hx] at ck;have HS:=Hd hs.symm;clear hs hx HCK HQ HR g6;go_wp2_with fail;go_roundw
     case rel=>exact⟨i+1,cc,by omega,by omega,by rw[show ((i+1:Nat):Int)=(i:Int)+1 by omega],rfl,HS,Hd trivial⟩
     case measure=>simp[intOf];omega
  ·obtain rfl:i=L:=by omega
   have gf:¬ (i:Int)<(i:Int):=by omega
   have hq:=HQ.out;rw[List.take_of_length_le (by rw[HL.out];exact Nat.le_refl _)] at hq;have hr:=HR.out;rw[<- hq] at hr;clear HCK HQ HR g6 hq
   by_cases hz:cc=0
   ·rw[if_pos hz] at hr;subst hz;have HF:Hid (P (.returned (.tuple #[.int .i64 0,.int .i64 0])) w):=Hd (by rw[gb.out,hr];exact⟨rfl,rfl⟩);clear hr;go_wp2_with fail
    first|exact HF.out|exact bodyPost_ret (results_tmp2 rfl _ _ _) rfl HF.out
   ·rw[if_neg hz] at hr;have gj:¬ (cc:Int)=0:=by omega
    have g5:=Hd hr;clear hr;go_wp2_with fail
    go_loopw [6,8] (fun s6 s8 wr=>∃ dd j:Nat,0<dd/\dd<=65536/\j<=n/\s6=.int .i64 (dd:Int)/\s8=.int .i64 (j:Int)/\Hid (dd<=2^j)/\Hid (r=shr j dd)/\Hid (w=wr)) (fun s6 _ _=>(intOf s6).toNat)
    case atStart=>exact⟨cc,n,by omega,by omega,Nat.le_refl _,rfl,rfl,Hd (by rw[<- ge.out];exact gd),g5,Hd rfl⟩
    case round =>
     obtain⟨dd,j,hd,gi,hj,rfl,rfl,g2,HQ,HW⟩:=hrel;have hw:=HW.out;subst hw;have g7:(dd:Int).tmod 2=((dd%2:Nat):Int):=by rw[Int.tmod_eq_emod_of_nonneg (by omega)];omega
     have g8:(dd:Int).tdiv 2=((dd/2:Nat):Int):=by rw[Int.tdiv_eq_ediv_of_nonneg (by omega)];omega
     by_cases g0:dd%2=1
     ·rw[g0] at g7
      have HF:Hid (P (.returned (.tuple #[.int .i64 (dd:Int),.int .i64 (j:Int)])) w):=Hd (by
       rw[gb.out];have e:=HQ.out;cases j with
       | zero=>rw[e];exact⟨rfl,rfl⟩
       | succ j =>
         unfold shr at e;rw[if_pos g0] at e;rw[e];exact⟨rfl,rfl⟩)
      clear g2 HQ g5 g0 g8;go_wp2_with fail
      first|exact HF.out|exact bodyPost_ret (results_tmp2 rfl _ _ _) rfl HF.out
     ·have h0:dd%2=0:=by omega
      rw[h0] at g7;obtain⟨j,rfl⟩:∃ i,j=i+1:=by
       cases j with
       | zero =>
         have:=g2.out;simp at this;omega
       | succ j=>exact⟨j,rfl⟩
      have gc:Hid (dd/2<=2^j):=Hd (by
       have:=g2.out;rw[Nat.pow_succ] at this;omega)
      have ga:Hid (r=shr j (dd/2)):=Hd (by
       have e:=HQ.out;unfold shr at e
       rwa [if_neg g0] at e)
      have g4:0<dd/2/\dd/2<=65536/\dd/2<dd:=by omega
      obtain⟨d2,g3⟩:∃ d2,d2=dd/2:=⟨_,rfl⟩;rw[<- g3] at gc ga g4 g8;have gg:((j+1:Nat):Int)-1=(j:Int):=by omega
      clear g2 HQ g5 g0 h0 g3;go_wp2_with fail;go_roundw
      case rel=>exact⟨d2,j,g4.1,g4.2.1,by omega,rfl,by first|rfl|(congr 1<;>omega),gc,ga,Hd trivial⟩
      case measure=>simp[intOf]<;>omega
theorem agF_succ (n:Nat)(zs:List Int)(v:Nat)(hv:v<n)(σ:Nat->Bool):agF (v+1) (Zem n zs) σ=(agF v (Zem n zs) σ&&(decide ((v:Int)∈zs) || !σ v)):=by
 show (agF v (Zem n zs) σ&&_)=_
 congr 1;unfold Zem
 by_cases e:(v:Int)∈zs
 . rw[if_neg (fun c=>c.2 e),decide_eq_true e];rfl
 . rw[if_pos ⟨hv,e⟩,decide_eq_false e];cases σ v<;>rfl
theorem refCount_any {n:Nat}{F:BF}(hn:n<=16){au:Option Addr}{cu:Nat}{w:World}(h1:Zf8 w au (tabB n F)){zs:List Int}{a:Option Addr}{c:Nat}(hz:Zau w a zs)(hin:∀ z∈zs,0<=z/\z<(n:Int)) :
 Calls prog 31 #[.slice au (2^n) cu,.slice a zs.length c,.int .i64 (n:Nat)] w fun x w'=>x=.returned (.tuple #[.int .i64 ((if cntE n F zs=0 then cntV n F zs else 0:Nat):Int),.int .i64 (cntE n F zs)])/\Below w.heap.size w w':=by
 obtain⟨P,hP⟩:∃ P:Ending->World->Prop,P=fun x w'=>x=.returned (.tuple #[.int .i64 ((if cntE n F zs=0 then cntV n F zs else 0:Nat):Int),.int .i64 (cntE n F zs)])/\Below w.heap.size w w':=⟨_,rfl⟩
 have gm:=Hd hP;have HH:Hid (∀ v W,v<n->Below w.heap.size w W->Calls prog 86 #[.slice au (2^n) cu,.int .i64 (v:Nat)] W fun x w'=>x=.returned (.bool (Zbp n F v))/\Below W.heap.size W w'):=Hd fun v W hv hb=>refHangs_tab n F v hn hv au cu W (h1.below hb)
 have g0:Hid (∀ (v:Nat) W,Below w.heap.size w W->Calls prog 87 #[.slice a zs.length c,.int .i64 (v:Nat)] W fun x w'=>x=.returned (.bool (decide ((v:Int)∈zs)))/\W=w'):=Hd fun v W hb=>in19_any (hz.below hb) v
 have g2:Hid (∀ (i v:Nat) W,i<=65536->v<=16->Calls prog 82 #[.int .i64 (i:Nat),.int .i64 (v:Nat)] W fun x w'=>x=.returned (.bool (bitB i v))/\W=w'):=Hd fun i v W hi hv=>truth_any i v (by omega) (by omega) W
 have HCK:Hid (∀ W k,Below w.heap.size w W->k<2^n->∃ b off,au=some ⟨b,off,none⟩/\W.cell? ⟨b,off+k,none⟩=some (.bool (F (Zdc (Zdb k n))))):=Hd fun W k hb hk=>by
  obtain⟨b,off,e,hc⟩:=h1.cells k (by rw[Zf2];exact hk);rw[Zot hk] at hc;exact⟨b,off,e,(hb.cell (p:=⟨b,off+k,none⟩) (Zab hc)).trans hc⟩
 have go:=Hd hin;obtain⟨L,g9⟩:∃ L,L=2^n:=⟨_,rfl⟩;have gz:L<=65536:=by rw[g9];exact pow64 hn
 rw[<- g9] at HCK HH ⊢;have gn:=Hd g9;have gt:Hid (Below w.heap.size w w):=Hd (Below.refl _ _);rw[<- hP];clear hP h1 hz hin g9
 go_enter func31,ntmps31
 go_wp2_with fail
 go_loopw [6,7,8] (fun _ _ s8 wr=>∃ v:Nat,v<=n/\s8=.int .i64 (v:Int)/\Hid (Below w.heap.size w wr)/\Hid (∀ u:Nat,u<v->Zbp n F u=true->(u:Int)∈zs)) (fun _ _ s8 _=>n-(intOf s8).toNat)
 case atStart=>exact⟨0,Nat.zero_le _,rfl,gt,Hd (fun u hu=>by omega)⟩
 case round =>
  obtain⟨v,hv,rfl,HB,HQ⟩:=hrel
  by_cases gh:v<n
  ·have gw:(v:Int)<(n:Int):=by omega
   have gc:=Hd (HH.out v wr gh HB.out);cases hh:Zbp n F v with
   | false =>
     have hq:=gc.out;rw[hh] at hq;have g4:=Hd hq;have gg:Hid (∀ u:Nat,u<v+1->Zbp n F u=true->(u:Int)∈zs):=Hd fun u hu g7=>by
      rcases(show u<v\/u=v by omega) with e|rfl
      . exact HQ.out u e g7
      . rw[hh] at g7;cases g7
     clear hq gc hh HQ g0 g2 HCK HH;go_wp2_with fail;refine g4.out.mono ?_;rintro x w2 ⟨rfl,g1⟩;have HB2:=Hd (HB.out.trans (g1.mono HB.out.size));clear g1 g4 HB;go_wp2_with fail;go_roundw
     case rel=>exact⟨v+1,by omega,by rw[show ((v+1:Nat):Int)=(v:Int)+1 by omega],HB2,gg⟩
     case measure=>simp[intOf];omega
   | true =>
     have hq:=gc.out;rw[hh] at hq;have g4:=Hd hq;clear hq gc
     by_cases hin:(v:Int)∈zs
     ·have HI:Hid (∀ W,Below w.heap.size w W->Calls prog 87 #[.slice a zs.length c,.int .i64 (v:Nat)] W fun x w'=>x=.returned (.bool true)/\W=w'):=Hd fun W hb=>by
       have:=g0.out v W hb
       rwa [decide_eq_true hin] at this
      have gg:Hid (∀ u:Nat,u<v+1->Zbp n F u=true->(u:Int)∈zs):=Hd fun u hu g7=>by
       rcases(show u<v\/u=v by omega) with e|rfl
       . exact HQ.out u e g7
       . exact hin
      clear hh HQ g0 g2 HCK HH hin;go_wp2_with fail;refine g4.out.mono ?_;rintro x w2 ⟨rfl,g1⟩;have HB2:=Hd (HB.out.trans (g1.mono HB.out.size));have g3:=Hd (HI.out w2 HB2.out);clear g1 g4 HB HI;go_wp2_with fail;refine g3.out.mono ?_;rintro x w' ⟨rfl,rfl⟩;go_wp2_with fail;go_roundw
      case rel=>exact⟨v+1,by omega,by rw[show ((v+1:Nat):Int)=(v:Int)+1 by omega],HB2,gg⟩
      case measure=>simp[intOf];omega
     ·have HI:Hid (∀ W,Below w.heap.size w W->Calls prog 87 #[.slice a zs.length c,.int .i64 (v:Nat)] W fun x w'=>x=.returned (.bool false)/\W=w'):=Hd fun W hb=>by
       have:=g0.out v W hb
       rwa [decide_eq_false hin] at this
      have HF:Hid (∀ W,Below w.heap.size w W->P (.returned (.tuple #[.int .i64 0,.int .i64 1])) W):=Hd fun W hb=>by
       rw[gm.out];have he:cntE n F zs=1:=by
        unfold cntE;rw[if_pos go.out,if_neg];intro gq;exact hin (gq v gh hh)
       rw[he,if_neg (by decide)];exact⟨rfl,hb⟩
      clear hh HQ g0 g2 HCK HH hin;go_wp2_with fail;refine g4.out.mono ?_;rintro x w2 ⟨rfl,g1⟩;have HB2:=Hd (HB.out.trans (g1.mono HB.out.size));have g3:=Hd (HI.out w2 HB2.out);have gp:=Hd (HF.out w2 HB2.out);clear g1 g4 HB HI HF;go_wp2_with fail;refine g3.out.mono ?_;rintro x w' ⟨rfl,rfl⟩;go_wp2_with fail
      first|exact gp.out|exact bodyPost_ret (results_tmp2 rfl _ _ _) rfl gp.out
  ·obtain rfl:v=n:=by omega
   have gv:¬ (v:Int)<(v:Int):=by omega
   have HE:Hid (cntE v F zs=0):=Hd (by
    unfold cntE;rw[if_pos go.out,if_pos HQ.out])
   obtain⟨T,hT⟩:∃ T,T=tabB v fun σ=>F σ&&agF v (Zem v zs) σ:=⟨_,rfl⟩
   have ga:Hid (T.length=L):=Hd (by rw[hT,Zf2,gn.out]);have gb:Hid (∀ i,i<L->T.getD i false=(F (Zdc (Zdb i v))&&agF v (Zem v zs) (Zdc (Zdb i v)))):=Hd fun i hi=>by
    rw[hT,Zot (by rw[<- gn.out];exact hi)]
   have g6:Hid (∀ W cc:Nat,cc=T.count true->P (.returned (.tuple #[.int .i64 (cc:Int),.int .i64 0])) wr):=Hd fun W cc gk=>by
    rw[gm.out,HE.out,if_pos rfl];refine⟨?_,HB.out⟩;rw[gk,hT];rfl
   clear HQ HH hT;go_wp2_with fail;obtain⟨wb,gr⟩:∃ W,W=wr:=⟨_,rfl⟩;subst gr
   go_loopw [9,10,11,12] (fun s9 s10 _ _ wr=>∃ i cc:Nat,i<=L/\cc<=i/\s10=.int .i64 (i:Int)/\s9=.int .i64 (cc:Int)/\Hid (cc=(T.take i).count true)/\Hid (wb=wr)) (fun _ s10 _ _ _=>L-(intOf s10).toNat)
   case atStart=>exact⟨0,0,Nat.zero_le _,Nat.le_refl _,rfl,rfl,Hd (by simp),Hd rfl⟩
   case round =>
    obtain⟨i,cc,hi,gk,rfl,rfl,HQ,HW⟩:=hrel;have hw:=HW.out;subst hw
    by_cases g8:i<L
    ·have gy:(i:Int)<(L:Int):=by omega
     obtain⟨b,off,rfl,ck⟩:=HCK.out wb i HB.out g8;have hs:=Yeg (l:=T) (i:=i) (by rw[ga.out];exact g8);rw[<- HQ.out,gb.out i g8] at hs;have HS:=Hd hs;obtain⟨f0,gi⟩:∃ f0,f0=F (Zdc (Zdb i v)):=⟨_,rfl⟩;rw[<- gi] at ck HS;have gs:Hid (f0=(f0&&agF 0 (Zem v zs) (Zdc (Zdb i v)))):=Hd (by show f0=(f0&&true);rw[Bool.and_true]);clear hs gi HQ;go_wp2_with fail
     go_loopw [11,12] (fun s11 s12 wr=>∃ (u:Nat) (own:Bool),u<=v/\s12=.int .i64 (u:Int)/\s11=.bool own/\Hid (own=(f0&&agF u (Zem v zs) (Zdc (Zdb i v))))/\Hid (wb=wr)) (fun _ s12 _=>v-(intOf s12).toNat)
     case atStart=>exact⟨0,f0,Nat.zero_le _,rfl,rfl,gs,Hd rfl⟩
     case round =>
      obtain⟨u,own,hu,rfl,rfl,HO,HW⟩:=hrel;have hw:=HW.out;subst hw
      by_cases ge:u<v
      ·have gx:(u:Int)<(v:Int):=by omega
       have gd:=agF_succ v zs u ge (Zdc (Zdb i v));have gj:Zdc (Zdb i v) u=bitB i u:=by rw[Zut,decide_eq_true ge,Bool.true_and]
       rw[gj] at gd;have g5:Hid (∀ t,t=(own&&(decide ((u:Int)∈zs) || !bitB i u))->t=(f0&&agF (u+1) (Zem v zs) (Zdc (Zdb i v)))):=Hd fun t ht=>by
        rw[ht,gd,<- Bool.and_assoc,<- HO.out]
       have HI:=Hd (g0.out u wb HB.out);have HT:=Hd (g2.out i u wb (by omega) (by omega));clear gd gj HO g0 g2 HCK g6 gb ga HS;cases own with
       | false =>
         have HN:=Hd (g5.out false (by simp));clear g5 HI HT;go_wp2_with fail;go_roundw
         case rel=>exact⟨u+1,false,by omega,by rw[show ((u+1:Nat):Int)=(u:Int)+1 by omega],rfl,HN,Hd trivial⟩
         case measure=>simp[intOf];omega
       | true =>
         by_cases hin:(u:Int)∈zs
         ·have hq:=HI.out;rw[decide_eq_true hin] at hq;have g3:=Hd hq;have HN:=Hd (g5.out true (by simp[hin]));clear g5 HI HT hq hin;go_wp2_with fail;refine g3.out.mono ?_;rintro x w' ⟨rfl,rfl⟩;go_wp2_with fail;go_roundw
          case rel=>exact⟨u+1,true,by omega,by rw[show ((u+1:Nat):Int)=(u:Int)+1 by omega],rfl,HN,Hd trivial⟩
          case measure=>simp[intOf];omega
         ·have hq:=HI.out;rw[decide_eq_false hin] at hq;have g3:=Hd hq;have HN:=Hd (g5.out (!bitB i u) (by simp[hin]));obtain⟨bb,gl⟩:∃ bb,bb=bitB i u:=⟨_,rfl⟩;rw[<- gl] at HT HN;clear g5 HI hq hin gl;go_wp2_with fail;refine g3.out.mono ?_;rintro x w' ⟨rfl,rfl⟩;go_wp2_with fail;refine HT.out.mono ?_;rintro x w' ⟨rfl,rfl⟩;go_wp2_with fail;go_roundw
          case rel=>exact⟨u+1,!bb,by omega,by rw[show ((u+1:Nat):Int)=(u:Int)+1 by omega],rfl,HN,Hd trivial⟩
          case measure=>simp[intOf];omega
      ·obtain rfl:u=v:=by omega
       have ho:=HO.out;have hs:=HS.out;rw[<- ho] at hs;clear HO HS g0 g2 HCK g6 gb ho;cases own with
       | true =>
         rw[if_pos rfl] at hs;have gf:=Hd hs.symm;clear hs;go_wp2_with fail;go_roundw
         case rel=>exact⟨i+1,cc+1,by omega,by omega,by rw[show ((i+1:Nat):Int)=(i:Int)+1 by omega],by rw[show ((cc+1:Nat):Int)=(cc:Int)+1 by omega],gf,Hd trivial⟩
         case measure=>simp[intOf];omega
       | false =>
         rw[if_neg (by simp),Nat.add_zero] at hs;have gf:=Hd hs.symm;clear hs;go_wp2_with fail;go_roundw
         case rel=>exact⟨i+1,cc,by omega,by omega,by rw[show ((i+1:Nat):Int)=(i:Int)+1 by omega],rfl,gf,Hd trivial⟩
         case measure=>simp[intOf];omega
    ·obtain rfl:i=L:=by omega
     have gu:¬ (i:Int)<(i:Int):=by omega
     have hq:=HQ.out;rw[List.take_of_length_le (by rw[ga.out];exact Nat.le_refl _)] at hq;have HF:=Hd (g6.out 0 cc hq);clear hq HQ g6 g0 g2 HCK gb ga;go_wp2_with fail
     first|exact HF.out|exact bodyPost_ret (results_tmp2 rfl _ _ _) rfl HF.out
end Go.Proofs.YtgmbklaolcmljaaGreat
