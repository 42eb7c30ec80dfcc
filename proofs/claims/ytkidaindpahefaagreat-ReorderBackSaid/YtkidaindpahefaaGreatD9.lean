/- Several texts in one file: contracts of the program's functions and what follows from them. -/
import Derived.Test.YtkidaindpahefaaGreatD8
import Derived.Deep.Slices
import Derived.ChangeArms
import Derived.WideShapes
set_option linter.unusedSimpArgs false
set_option linter.unusedVariables false
set_option linter.unusedSectionVars false
set_option linter.unnecessarySimpa false
set_option maxRecDepth 100000
set_option maxHeartbeats 8000000
namespace Go.Proofs.YtkidaindpahefaaGreat
open Go.Proofs.Tryz
open Go.RowKit
open Go.RowKit
def LwB (n base:Nat)(vl vx:Value)(hs:List (Int×BF)):World->Own->Prop:=fun W o=>LawL W o base vl (hs.map Prod.fst)/\LawX W o base vx (hs.map fun p=>tabB n p.2)
theorem LwB.keep {n base:Nat}{vl vx:Value}{hs:List (Int×BF)}:Zbo (LwB n base vl vx hs):=fun _ _ _ _ h hc=>⟨h.1.chg hc,h.2.chg hc⟩
structure Q23 (n:Nat)(hs:List (Int×BF))(nx:Int):Prop where
 n1:1<=n
 n6:n<=6
 h5:hs.length<=5
 nx:nx<=549755813888
 room:3*((two++hs).length*2^n)<=Zck n
structure S23 (K:Law)(n:Nat)(w0:World)(mb:Nat)(ws0:List Ev)(o0:Own)(wb:World)(vl vx:Value)(hs:List (Int×BF))(nx:Int)(B:World->Own->Prop)(zs:List Int)(W:World):Prop where
 st:FxO K n (Zck n) w0 mb ws0 NoB o0 wb (fun W o=>LwB n w0.heap.size vl vx hs W o/\B W o) (fun l=>l.map Int.ofNat=zs) (two++hs) nx W
 r:Zay zs=true
 len:zs.length=n
section
variable {K:Law}{n:Nat}{w0 w W W' w' wb:World}{mb:Nat}{hs:List (Int×BF)}{nx:Int}{o0 o:Own}{m:ManD}{V:Nat->BF}{ws0:List Ev}{B B':World->Own->Prop}{zs:List Int}{al:Option Addr}{cl:Nat}{vl vx:Value}
theorem Q23.pow (q:Q23 n hs nx):2^n<=64:=Nat.pow_le_pow_right (by omega) q.n6
theorem Q23.size (q:Q23 n hs nx):hs.length*2^n+2^n<=1000:=by
 have h1:=q.pow;have h2:=Nat.mul_le_mul q.h5 h1;omega
theorem S23.start {Od:List Nat->Prop}(h:LawT K n Od (Zck n) w0 mb (two++hs) nx (SufW ws0) hs hs W o m V vl vx):∃ zs,S23 K n w0 mb ws0 o W vl vx hs nx (fun _ _=>True) zs W:=by
 have hp:=h.sat.ok.store.permB;exact⟨m.d.vars.map Int.ofNat,⟨o,m,V,ChgX.of_below (Below.refl _ _) o NoB,h.st,h.sat.withOd rfl,⟨h.l,h.x⟩,trivial⟩,Zdz (Zii hp),by rw[List.length_map];exact h.sat.vars⟩
theorem S23.keepB (hB:Zbo B):Zbo (fun W o=>LwB n w0.heap.size vl vx hs W o/\B W o):=LwB.keep.and hB
theorem S23.below (hB:Zbo B)(h:S23 K n w0 mb ws0 o0 wb vl vx hs nx B zs W)(hb:Below W.heap.size W W'):S23 K n w0 mb ws0 o0 wb vl vx hs nx B zs W':=⟨h.st.below (S23.keepB hB) hb,h.r,h.len⟩
theorem S23.below0 (h:S23 K n w0 mb ws0 o0 wb vl vx hs nx B zs W):Below w0.heap.size w0 W:=h.st.below0
theorem S23.know (h:S23 K n w0 mb ws0 o0 wb vl vx hs nx B zs W){Q:World->Prop}(hq:∀ W o,B W o->Q W):Q W:=h.st.know fun W o hh=>hq W o hh.2
theorem Zws {hs:List (Int×BF)}:∀ p∈hs,p∈two++hs:=fun _ hp=>List.mem_append_right _ hp
theorem LwB.arg (q:Q23 n hs nx)(h:LwB n w0.heap.size (.slice al hs.length cl) vx hs W o):ArgI w0 W o al (hs.map Prod.fst):=by
 obtain⟨a,c,e,h1⟩:=(Zw7 h.1 h.2 Zws (by have:=q.h5;omega)).l;injection e with e1 e2 e3
 subst e1;refine⟨h1,fun x hx=>?_⟩;have hk:(Value.slice al hs.length cl).ownBlock=some x.block:=by rw[hx];rfl
 have:=h.1.own.lt _ hk;exact⟨this.2,this.1,h.1.no _ hk⟩
theorem S23.order (hB:Zbo B)(h:S23 K n w0 mb ws0 o0 wb vl vx hs nx B zs W) :
 Calls prog 19 #[.pointer (some ⟨mb,0,none⟩)] W fun x w'=>∃ v,x=.returned v/\SliceIs w' v zs/\S23 K n w0 mb ws0 o0 wb vl vx hs nx (fun W o=>B W o/\Zbn v zs W o) zs w'/\Below W.heap.size W w':=by
 refine(h.st.order (S23.keepB hB)).mono ?_;rintro x w' ⟨v,l,rfl,-,hP,-,-,hf,hb⟩;rw[hP] at hf;have g0:=hf.imp (P':=fun l=>l.map Int.ofNat=zs) fun l' _ e=>by rw[e];exact hP
 exact⟨v,rfl,g0.know fun W o hh=>hh.2.slice,⟨g0.withB fun _ _ _ _ hh=>⟨hh.1.1,hh.1.2,hh.2⟩,h.r,h.len⟩,hb⟩
theorem S23.left (q:Q23 n hs nx)(h:S23 K n w0 mb ws0 o0 wb vl vx hs nx B zs W):Calls prog 29 #[.pointer (some ⟨mb,0,none⟩),.int .i64 (hs.length:Nat)] W fun x w'=>x=.returned (.bool true)/\W=w' :=
 h.st.ask fun o m V hs' _=>(Zzz hs' hs.length (by have:=q.h5;omega)).mono fun e w' ⟨h1,h2⟩=>⟨by rw[h1,decide_eq_true (by simp[two])],h2⟩
end
open Go.RowKit
theorem Zm8 {zs vs p q:List Int}{lv:Nat}(h:lv+p.length<=zs.length)(hq:q.length=p.length):winZ (winZ zs vs lv q) vs lv p=winZ zs vs lv p:=by
 unfold winZ;have l1:(zs.take lv).length=lv:=by simp;omega
 have l2:(zs.take lv++q.map fun x=>at0 vs x.toNat).length=lv+p.length:=by simp;omega
 have e1:(zs.take lv++(q.map fun x=>at0 vs x.toNat)++zs.drop (lv+q.length)).take lv=zs.take lv:=by
  rw[List.append_assoc,List.take_append_of_le_length (by omega),List.take_of_length_le (by omega)]
 have e2:(zs.take lv++(q.map fun x=>at0 vs x.toNat)++zs.drop (lv+q.length)).drop (lv+p.length)=zs.drop (lv+p.length):=by
  rw[<- l2,List.drop_left,hq,l2]
 rw[e1,e2]
theorem Ya8 {zs vs p:List Int}{lv:Nat}(h:lv+p.length<=zs.length):((winZ zs vs lv p).drop lv).take p.length=p.map fun x=>at0 vs x.toNat:=by
 unfold winZ;have l1:(zs.take lv).length=lv:=by simp;omega
 rw[List.append_assoc]
 conv=>lhs;arg 2;arg 1;rw[<- l1]
 rw[List.drop_left,List.take_append_of_le_length (by simp),List.take_of_length_le (by simp)]
section
variable {K:Law}{n:Nat}{w0 w W W' w' wb:World}{mb:Nat}{hs:List (Int×BF)}{nx:Int}{o0 o:Own}{m:ManD}{V:Nat->BF}{ws0:List Ev}{B B':World->Own->Prop}{zs:List Int}{al:Option Addr}{cl:Nat}{vl vx:Value}
theorem S23.all (q:Q23 n hs nx)(h:S23 K n w0 mb ws0 o0 wb (.slice al hs.length cl) vx hs nx B zs W) :
 Calls prog 28 #[.pointer (some ⟨mb,0,none⟩),.slice al hs.length cl,vx] W fun x w'=>x=.returned (.bool true)/\Below W.heap.size W w':=by
 obtain⟨o,m,V,_,_,g0,hw,_⟩:=h.st;exact Yb8 g0 (by have:=q.n6;omega) (Zw7 hw.1 hw.2 Zws (by have:=q.h5;omega))
theorem S23.mine (hB:Zbo B)(h:S23 K n w0 mb ws0 o0 wb vl vx hs nx B zs W)(hb:Below W.heap.size W W'){v:Value}{ts:List Int}(hv:SliceIs W' v ts)(hk:∀ k,v.ownBlock=some k->W.heap.size<=k/\k<W'.heap.size):S23 K n w0 mb ws0 o0 wb vl vx hs nx (fun W o=>B W o/\Zbn v ts W o) zs W' :=
 ⟨(h.st.mine (S23.keepB hB) hb hv hk).withB fun _ _ _ _ hh=>⟨hh.1.1,hh.1.2,hh.2⟩,h.r,h.len⟩
theorem S23.came (h:S23 K n w0 mb ws0 o0 wb vl vx hs nx B zs W){a:Option Addr}{ts:List Int}{c:Nat}(hv:SliceIs W (.slice a ts.length c) ts)(hk:∀ x,a=some x->x.block<w0.heap.size):S23 K n w0 mb ws0 o0 wb vl vx hs nx (fun W o=>B W o/\Zbn (.slice a ts.length c) ts W o) zs W :=
 ⟨h.st.withB fun o m V hsat hh=>⟨hh.1,hh.2,hv,fun k e=>by
  cases a with
  | none=>cases e
  | some x =>
    cases e;have:=hk x rfl;exact⟨Nat.lt_of_lt_of_le this hsat.chg.size,hsat.none0 this⟩⟩,h.r,h.len⟩
theorem Zdv (hK:Zc8 K)(hB:Zbo B)(q:Q23 n hs nx)(h:S23 K n w0 mb ws0 o0 wb (.slice al hs.length cl) vx hs nx B zs W){a:Option Addr}{c:Nat}(hz:Zav W a zs) :
 Calls prog 42 #[.pointer (some ⟨mb,0,none⟩),.slice a n c,.slice al hs.length cl,vx] W fun x w'=>x=.returned (.bool true)/\Below W.heap.size W w':=by
 have g5:Hid (Calls prog 19 #[.pointer (some ⟨mb,0,none⟩)] W fun x w'=>∃ b d,x=.returned (.slice b n d)/\Below W.heap.size W w'/\Hid (Calls prog 95 #[.slice b n d,.slice a n c] w' fun x w2=>x=.returned (.bool true)/\Below w'.heap.size w' w2)):=Hd (by
  refine(h.order hB).mono ?_;rintro x w' ⟨v,rfl,gc,h2,g0⟩;obtain⟨b,d,rfl,ga,-⟩:=gc;have hs:=Zkf b a d c zs zs w' ga (hz.below g0);rw[decide_eq_true rfl,h.len] at hs;rw[h.len];exact⟨b,d,rfl,g0,Hd (hs.mono fun x w2 ⟨h1,k,h2⟩=>⟨h1,by rw[h2];exact Zag w' k⟩)⟩)
 have g9:Hid (∀ W2,Below W.heap.size W W2->Calls prog 28 #[.pointer (some ⟨mb,0,none⟩),.slice al hs.length cl,vx] W2 fun x w'=>x=.returned (.bool true)/\Below W2.heap.size W2 w'):=Hd fun W2 hb=>(h.below hB hb).all q
 have g7:Hid (∀ W2,Below W.heap.size W W2->Calls prog 29 #[.pointer (some ⟨mb,0,none⟩),.int .i64 (hs.length:Nat)] W2 fun x w2=>x=.returned (.bool true)/\W2=w2):=Hd fun W2 hb=>(h.below hB hb).left q
 have g6:=Hd (fun w=>Zfr hK w);have ge:=q.h5;clear h q hB hz hK
 go_enter func42,ntmps42
 go_wp2_with fail;refine g5.out.mono ?_;rintro x w1 ⟨b,d,rfl,g4,HS⟩;have g8:=Hd g4;clear g4 g5;go_wp2_with fail;refine HS.out.mono ?_;rintro x w2 ⟨rfl,g0⟩;have HB2:=Hd (g8.out.trans (g0.mono g8.out.size));have HA:=Hd (g9.out w2 HB2.out);clear g0 HS g9;go_wp2_with fail;refine HA.out.mono ?_;rintro x w3 ⟨rfl,g3⟩;have g1:=Hd (HB2.out.trans (g3.mono HB2.out.size));have HL:=Hd (g7.out w3 g1.out);clear g3 HA g7;go_wp2_with fail;refine HL.out.mono ?_;rintro x w3' ⟨rfl,rfl⟩;have HV:=Hd (g6.out w3);clear HL g6;go_wp2_with fail;refine HV.out.mono ?_;rintro x w4 ⟨rfl,g2⟩;have gd:=Hd (g1.out.trans (g2.mono g1.out.size));clear g2 HV;go_wp2_with fail;go_ret;exact⟨rfl,gd.out⟩
theorem S23.to (hB:Zbo B)(q:Q23 n hs nx)(h:S23 K n w0 mb ws0 o0 wb vl vx hs nx B zs W){v:Value}{ts:List Int}(hz:∀ W o,B W o->SliceIs W v ts)(hr:Zay ts=true)(hl:ts.length=n) :
 Calls prog 44 #[.pointer (some ⟨mb,0,none⟩),v] W fun x w'=>x=.returned (.int .i64 0)/\S23 K n w0 mb ws0 o0 wb vl vx hs nx B ts w' :=
 (Zqd (S23.keepB hB) h.st q.nx q.room (fun W o hh=>hz W o hh.2) hr hl).mono fun x w' hh=>⟨hh.1,hh.2,hr,hl⟩
theorem S23.toBad (hB:Zbo B)(h:S23 K n w0 mb ws0 o0 wb vl vx hs nx B zs W){v:Value}{ts:List Int}(hz:SliceIs W v ts)(hno:¬ (ts.length=n/\Zay ts=true)) :
 Calls prog 44 #[.pointer (some ⟨mb,0,none⟩),v] W fun x w'=>x=.returned (.int .i64 1)/\Below W.heap.size W w':=Zx6 (S23.keepB hB) h.st hz hno
theorem S23.turn (hB:Zbo B)(q:Q23 n hs nx)(h:S23 K n w0 mb ws0 o0 wb vl vx hs nx B zs W) :
 Calls prog 45 #[.pointer (some ⟨mb,0,none⟩)] W fun x w'=>x=.returned (.int .i64 0)/\S23 K n w0 mb ws0 o0 wb vl vx hs nx B zs.reverse w' :=
 (Zvc (S23.keepB hB) h.r h.len h.st q.nx q.room).mono fun x w' hh=>⟨hh.1,hh.2,(Zht h.r h.len).1,(Zht h.r h.len).2⟩
theorem S23.move (hB:Zbo B)(q:Q23 n hs nx)(h:S23 K n w0 mb ws0 o0 wb vl vx hs nx B zs W){f t:Nat}(hf:f<n)(ht:t<n) :
 Calls prog 47 #[.pointer (some ⟨mb,0,none⟩),.int .i64 (f:Nat),.int .i64 (t:Nat)] W fun x w'=>x=.returned (.int .i64 0)/\S23 K n w0 mb ws0 o0 wb vl vx hs nx B (Ze2 zs (f:Int) (t:Int)) w' :=
 (Zup (S23.keepB hB) h.r h.len h.st q.nx q.room hf ht).mono fun x w' hh=>⟨hh.1,hh.2,(Zi5 h.r h.len hf ht).1,(Zi5 h.r h.len hf ht).2⟩
theorem S23.moveBad (hB:Zbo B)(h:S23 K n w0 mb ws0 o0 wb vl vx hs nx B zs W){f t:Int}(hno:¬ ((0<=f/\f<(n:Int))/\0<=t/\t<(n:Int))) :
 Calls prog 47 #[.pointer (some ⟨mb,0,none⟩),.int .i64 f,.int .i64 t] W fun x w'=>x=.returned (.int .i64 2)/\W=w':=Zms (S23.keepB hB) h.st hno
def WinR (n:Nat)(Fs:List BF)(zs:List Int)(lv wd:Nat)(k:Nat)(ts:List Int):Prop:=∃ (vs:List Int) (b:Nat),vs.Perm ((zs.drop lv).take wd)/\Zbb wd vs/\Ze6 (sizes22 n Fs zs vs lv wd) (ordR wd wd []).length b/\k=szO n Fs (winZ zs vs lv ((ordR wd wd []).getD b []))/\ts=winZ zs vs lv ((ordR wd wd []).getD b [])
theorem S23.window (hB:Zbo B)(q:Q23 n hs nx)(h:S23 K n w0 mb ws0 o0 wb (.slice al hs.length cl) vx hs nx B zs W){lv wd d:Nat}(hw1:1<=wd)(hw4:wd<=4)(hlw:lv+wd<=n)(hd:d<=hs.length) :
 Calls prog 41 #[.pointer (some ⟨mb,0,none⟩),.int .i64 (lv:Nat),.int .i64 (wd:Nat),.slice al d cl] W fun e w'=>∃ k ts,WinR n ((hs.take d).map Prod.snd) zs lv wd k ts/\k<=1000/\e=.returned (.tuple #[.int .i64 (k:Nat),.int .i64 0])/\S23 K n w0 mb ws0 o0 wb (.slice al hs.length cl) vx hs nx B ts w':=by
 have g3:∀ W o,(LwB n w0.heap.size (.slice al hs.length cl) vx hs W o/\B W o)->ArgI w0 W o al ((hs.take d).map Prod.fst):=fun W o hh=>by
  have ha:=hh.1.arg q;refine⟨⟨by simp;have:=q.h5;omega,fun j hj=>?_⟩,ha.own⟩;simp at hj;obtain⟨b,off,e,hc⟩:=ha.z.cells j (by simp;omega);refine⟨b,off,e,?_⟩;rw[hc];congr 2;rw[Zax (by simp;omega),Zax (by simp;omega)];simp
 have g2:((hs.take d).map Prod.fst).length=d:=by simp;omega
 have:=Zjr (c:=cl) (a:=al) (ks:=(hs.take d).map Prod.fst) (Fs:=(hs.take d).map Prod.snd) (S23.keepB hB) h.r h.len hw1 hw4 hlw q.nx q.room g3 (by simp) (fun i hi=>by
  simp only[List.getElem_map];exact Zws _ (List.mem_of_mem_take (List.getElem_mem _))) (by
  rw[List.length_map];refine Nat.le_trans (Nat.mul_le_mul_right _ (show (hs.take d).length<=hs.length by simp;omega)) ?_;exact Nat.le_trans (Nat.le_add_right _ _) (Nat.le_trans q.size (by omega))) h.st
 rw[g2] at this;refine Calls.mono this ?_;rintro e w' ⟨vs,b,h1,h2,h3,rfl,h4⟩;have hb:=h3.1;have g4:(ordR wd wd []).getD b []∈ordR wd wd []:=by rw[List.getD,List.getElem?_eq_getElem hb];exact List.getElem_mem hb
 have g1:vs.length=wd:=by rw[h1.length_eq];simp;have:=h.len;omega
 obtain⟨p1,p2,_⟩:=Zie g4 g1;have hp:=Zqy (lv:=lv) (zs:=zs) (by have:=h.len;omega) h1 p1 p2;have g0:(winZ zs vs lv ((ordR wd wd []).getD b [])).length=n:=by rw[hp.length_eq];exact h.len
 have hq:=Zil h.r h.len;refine⟨_,_,⟨vs,b,h1,h2,h3,rfl,rfl⟩,?_,rfl,h4,Zgk ⟨hp.nodup_iff.2 hq.1,fun x hx=>hq.2 x (hp.mem_iff.1 hx)⟩ g0,g0⟩;refine Nat.le_trans (Ybx n _ _) (Nat.le_trans (Nat.mul_le_mul_right _ (show ((hs.take d).map Prod.snd).length<=hs.length by simp;omega)) ?_);exact Nat.le_trans (Nat.le_add_right _ _) q.size
end
theorem WinR.again {n lv wd k k':Nat}{Fs:List BF}{zs ts ts':List Int}(hz:lv+wd<=zs.length)(h:WinR n Fs zs lv wd k ts)(h':WinR n Fs ts lv wd k' ts'):k'=k/\ts'=ts:=by
 obtain⟨vs,b,h1,h2,h3,rfl,rfl⟩:=h;obtain⟨vs',b',g1,g2,g3,rfl,rfl⟩:=h';have hb:=h3.1;have g0:vs.length=wd:=by rw[h1.length_eq];simp;omega
 have g4:∀ c,c<(ordR wd wd []).length->(ordR wd wd []).getD c []∈ordR wd wd []:=fun c hc=>by rw[List.getD,List.getElem?_eq_getElem hc];exact List.getElem_mem hc
 obtain⟨p1,p2,_⟩:=Zie (g4 b hb) g0;have hm:(((winZ zs vs lv ((ordR wd wd []).getD b [])).drop lv).take wd).Perm vs:=by
  have:=Ya8 (zs:=zs) (vs:=vs) (p:=(ordR wd wd []).getD b []) (lv:=lv) (by rw[p2];exact hz);rw[p2] at this;rw[this];exact p1
 have ev:vs'=vs:=Zip g2 h2 (g1.trans hm) (List.Perm.refl _) g0;subst ev;have hs:sizes22 n Fs (winZ zs vs' lv ((ordR wd wd []).getD b [])) vs' lv wd=sizes22 n Fs zs vs' lv wd:=by
  unfold sizes22;refine List.map_congr_left fun p hp=>?_
  obtain⟨_,q2,_⟩:=Zie hp g0;rw[Zm8 (by rw[q2];exact hz) (by rw[p2,q2])]
 rw[hs] at g3;have eb:b'=b:=Zt4 g3 h3;subst eb;have e:winZ (winZ zs vs' lv ((ordR wd wd []).getD b' [])) vs' lv ((ordR wd wd []).getD b' [])=winZ zs vs' lv ((ordR wd wd []).getD b' []):=Zm8 (by rw[p2];exact hz) rfl;rw[e];exact⟨rfl,rfl⟩
theorem Zya (a:Option Addr)(c L:Nat)(n:Int)(w:World)(h:(L:Int)≠n) :
 Calls prog 23 #[.slice a L c,.int .i64 n] w fun x w'=>x=.returned (.bool false)/\w=w':=by
 have g0:((L:Int) != n)=true:=by rw[bne_iff_ne];exact h
 clear h
 go_enter func23,ntmps23
 go_wp2_with fail;go_ret;exact⟨rfl,rfl⟩
theorem Zm0 {a:Option Addr}{c n:Nat}{ys:List Int}{w:World}(hz:Zav w a ys)(hn:n<=64) :
 Calls prog 23 #[.slice a ys.length c,.int .i64 (n:Nat)] w fun x w'=>∃ b:Bool,x=.returned (.bool b)/\(b=true↔ys.length=n/\Zay ys=true)/\w=w':=by
 by_cases h:ys.length=n
 . have:=Zk3 a c ys (n:Int) w hz (by omega);rw[Zk2] at this;exact this.mono fun x w' hh=>⟨_,hh.1,by simp,hh.2⟩
 . exact(Zya a c ys.length (n:Int) w (by omega)).mono fun x w' hh=>⟨false,hh.1,by simp[h],hh.2⟩
open Go.RowKit
section
variable {K:Law}{n:Nat}{w0 w W W' w' wb:World}{mb:Nat}{hs:List (Int×BF)}{nx:Int}{o0 o:Own}{m:ManD}{V:Nat->BF}{ws0:List Ev}{B B':World->Own->Prop}{zs:List Int}{al:Option Addr}{cl:Nat}{vl vx:Value}
theorem S23.right (h:S23 K n w0 mb ws0 o0 wb vl vx hs nx B zs W)(q:Q23 n hs nx){a:Option Addr}{c:Nat}(hz:Zav W a zs) :
 Calls prog 23 #[.slice a n c,.int .i64 n] W fun x w'=>x=.returned (.bool true)/\W=w':=by
 have:=Zk3 a c zs n W hz (by have:=h.len;have:=q.n6;omega);rw[h.len] at this;refine this.mono ?_;rintro x w' ⟨rfl,rfl⟩;exact⟨by rw[Zk2,decide_eq_true ⟨h.len,h.r⟩],rfl⟩
end
end Go.Proofs.YtkidaindpahefaaGreat

namespace Go.Proofs.YtkidaindpahefaaGreat
open Go.Proofs.Tryz
open Go.RowKit Go.Deep Go.ChangeShapes Go.WideShapes
theorem wfI {x:Int}(h:(Lit.int .i64 x).wf=true):okI x:=by
 unfold okI;simp only[Lit.wf,IntKind.min,IntKind.max,IntKind.signed,IntKind.bits,Bool.and_eq_true,decide_eq_true_eq,if_true] at h;omega
theorem Znd {b off:Nat}(k:Nat):(⟨b,off,none⟩:Addr).add k=⟨b,off+k,none⟩:=by unfold Addr.add;split<;>simp_all
theorem add0 (a:Addr):a.add 0=a:=by simp[Addr.add]
theorem Zgb {w:World}{a:Addr}{v:Value}(h:w.cell? a=some v):a.spot=none:=by
 obtain⟨b,off,spot⟩:=a;cases spot with
 | none=>rfl
 | some s=>simp[World.cell?] at h;split at h<;>simp at h
theorem Zv6 {n:Nat}{p:Nat->Ev->Prop}(h:∀ i,i<n->∃ x,p i x):∃ f:Nat->Ev,∀ i,i<n->p i (f i):=by
 classical
 refine⟨fun i=>if hi:i<n then Classical.choose (h i hi) else ⟨0,0,0⟩,fun i hi=>?_⟩;simp only[dif_pos hi];exact Classical.choose_spec (h i hi)
theorem Zn2 {H:Type}{enc:TypeId×Value->H}{P:Program}{w:World}{base:Nat}{spare:Nat->Bool}{held:Bool}{t e:TypeId}{fuel:Nat}{cs:List Value}{x:DataW H×List MemPlace}(ht:P.underlying t=some (.slice e))(h:DataW.trod enc P w base spare held fuel t cs=some x) :
 cs=[.slice none 0 0]\/∃ (a:Addr) (len cap n:Nat),cs=[.slice (some a) len cap]/\len<=cap/\cap<=maxLen/\fuel=n+1/\∀ i,i<len->∃ cs' y,w.cells? base (a.add (i*P.cellsOf e)) (P.cellsOf e)=some cs'/\DataW.trod enc P w base spare held n e cs'=some y:=by
 rcases DataW.trod_slice ht h with ⟨h0,_⟩|⟨a,len,cap,elems,rest,n,hn,e1,_,_,hl,hm,g1,g0,_⟩
 . exact .inl h0
 . refine .inr ⟨a,len,cap,n,e1,hl,hm,hn,fun i hi=>?_⟩;have:=g0 i hi;rw[List.getElem?_eq_getElem (by omega)] at this;obtain⟨cs',h1,h2⟩:=Option.bind_eq_some_iff.1 this;exact⟨cs',_,h1,h2⟩
theorem open_expr {H:Type}{enc:TypeId×Value->H}{w:World}{base:Nat}{spare:Nat->Bool}{held:Bool}:∀ (fuel:Nat) {cs:List Value} {x:DataW H×List MemPlace},
 DataW.trod enc prog w base spare held fuel 79 cs=some x->∃ e x0 x1 x2,cs=[x0,x1,x2]/\Za4 w e (.agg #[x0,x1,x2]):=by
 intro fuel
 induction fuel using Nat.strongRecOn with
 | _ fuel IH =>
   intro cs x h;obtain⟨xs,k,hk,g8,g5,g6,hf⟩:=DataW.trod_struct underlying79 h;have c1:prog.cellsOf 3=1:=by kernel_rfl
   have c2:prog.cellsOf 23=1:=by kernel_rfl
   have c3:prog.cellsOf 79=3:=by kernel_rfl
   rw[c3] at g5
   match xs,g6,cs,g5 with
   | [y0,y1,y2],_,[v0,v1,v2],_ =>
     have g0:=hf 0 _ rfl;have g1:=hf 1 _ rfl;have g2:=hf 2 _ rfl;simp[c1,c2] at g0 g1 g2;obtain⟨n0,e0,_,w0⟩:=DataW.trod_int underlying3 g0;obtain⟨n1,e1,_,w1⟩:=DataW.trod_int underlying3 g1;simp only[List.cons.injEq,and_true] at e0 e1;subst e0 e1;rcases Zn2 underlying23 g2 with e2|⟨a,len,cap,n,e2,hl,hm,g9,hx⟩
     . simp only[List.cons.injEq,and_true] at e2;subst e2;exact⟨.mk n0 n1 0 (fun _=>.nil),_,_,_,rfl,by unfold Za4;exact⟨none,0,rfl,wfI w0,wfI w1,by omega,fun k hk=>by omega⟩⟩
     ·simp only[List.cons.injEq,and_true] at e2;subst e2;have each:∀ i,i<len->∃ q:ExT,∃ x0 x1 x2,w.cell? (a.add (i*3))=some x0/\w.cell? ((a.add (i*3)).add 1)=some x1/\w.cell? ((a.add (i*3)).add 2)=some x2/\Za4 w q (.agg #[x0,x1,x2]):=by
       intro i hi;obtain⟨cs',y,h1,h2⟩:=hx i hi;rw[c3] at h1;obtain⟨_,g7,g3⟩:=World.cells?_some h1;obtain⟨e,x0,x1,x2,rfl,he⟩:=IH n (by omega) h2;have f0:=g3 0 (by omega);have f1:=g3 1 (by omega);have f2:=g3 2 (by omega);rw[add0] at f0;exact⟨e,x0,x1,x2,by simpa using f0,by simpa using f1,by simpa using f2,he⟩
      obtain⟨q,hq⟩:=choose_lt each;refine⟨.mk n0 n1 len q,_,_,_,rfl,?_⟩;unfold Za4;refine⟨some a,cap,rfl,wfI w0,wfI w1,by unfold maxLen at hm;omega,fun i hi=>?_⟩;obtain⟨x0,x1,x2,f0,f1,f2,he⟩:=hq i hi;have g4:a.spot=none:=by
       obtain⟨_,_,_,q0,_⟩:=hq 0 (by omega);have:=Zgb q0;simpa [Addr.add] using this
      obtain⟨b,off,spot⟩:=a;dsimp only at g4;subst g4;simp only[Znd] at f0 f1 f2;exact⟨b,off,x0,x1,x2,rfl,f0,f1,f2,he⟩
theorem Zut {H:Type}{enc:TypeId×Value->H}{w:World}{base:Nat}{spare:Nat->Bool}{held:Bool}{fuel:Nat}{cs:List Value}{x:DataW H×List MemPlace}
 (h:DataW.trod enc prog w base spare held fuel 23 cs=some x):∃ a l cap,cs=[.slice a l.length cap]/\Zj9 w a l:=by
 have c3:prog.cellsOf 79=3:=by kernel_rfl
 rcases Zn2 underlying23 h with e2|⟨a,len,cap,n,e2,hl,hm,g4,hx⟩
 . exact⟨none,[],0,e2,⟨by simp,fun k hk=>by simp at hk⟩⟩
 ·subst e2;have each:∀ i,i<len->∃ q:ExT,∃ x0 x1 x2,w.cell? (a.add (i*3))=some x0/\w.cell? ((a.add (i*3)).add 1)=some x1/\w.cell? ((a.add (i*3)).add 2)=some x2/\Za4 w q (.agg #[x0,x1,x2]):=by
   intro i hi;obtain⟨cs',y,h1,h2⟩:=hx i hi;rw[c3] at h1;obtain⟨_,g3,g0⟩:=World.cells?_some h1;obtain⟨e,x0,x1,x2,rfl,he⟩:=open_expr n h2;have f0:=g0 0 (by omega);have f1:=g0 1 (by omega);have f2:=g0 2 (by omega);rw[add0] at f0;exact⟨e,x0,x1,x2,by simpa using f0,by simpa using f1,by simpa using f2,he⟩
  obtain⟨q,hq⟩:=choose_lt each;refine⟨some a,(List.range len).map q,cap,by simp,⟨by unfold maxLen at hm;simp;omega,fun i hi=>?_⟩⟩;have g2:i<len:=by simpa using hi
  obtain⟨x0,x1,x2,f0,f1,f2,he⟩:=hq i g2;have g1:a.spot=none:=by
   obtain⟨_,_,_,q0,_⟩:=hq 0 (by omega);have:=Zgb q0;simpa [Addr.add] using this
  obtain⟨b,off,spot⟩:=a;dsimp only at g1;subst g1;simp only[Znd] at f0 f1 f2;exact⟨b,off,x0,x1,x2,rfl,f0,f1,f2,by simpa using he⟩
theorem open_evs {H:Type}{enc:TypeId×Value->H}{w:World}{base:Nat}{spare:Nat->Bool}{held:Bool}{fuel:Nat}{cs:List Value}{x:DataW H×List MemPlace}
 (h:DataW.trod enc prog w base spare held fuel 24 cs=some x):∃ a l cap,cs=[.slice a l.length cap]/\EvsAt w a l/\(∀ ev∈l,okI ev.after/\okI ev.kind/\okI ev.level)/\(a=none->cap=0)/\l.length<=cap/\cap<=maxLen:=by
 have c1:prog.cellsOf 3=1:=by kernel_rfl
 have c3:prog.cellsOf 77=3:=by kernel_rfl
 rcases Zn2 underlying24 h with e2|⟨a,len,cap,n,e2,hl,hm,ga,hx⟩
 . exact⟨none,[],0,e2,⟨by simp,fun k hk=>by simp at hk⟩,by simp,fun _=>rfl,by simp,by simp⟩
 ·subst e2;have each:∀ i,i<len->∃ q:Ev,w.cell? (a.add (i*3))=some (.int .i64 q.after)/\w.cell? ((a.add (i*3)).add 1)=some (.int .i64 q.kind)/\w.cell? ((a.add (i*3)).add 2)=some (.int .i64 q.level)/\okI q.after/\okI q.kind/\okI q.level:=by
   intro i hi;obtain⟨cs',y,h1,h2⟩:=hx i hi;rw[c3] at h1;obtain⟨_,g5,g3⟩:=World.cells?_some h1;obtain⟨xs,k,hk,g9,_,g6,hf⟩:=DataW.trod_struct underlying77 h2
   match xs,g6,cs',g5 with
   | [y0,y1,y2],_,[v0,v1,v2],_ =>
     have g0:=hf 0 _ rfl;have g1:=hf 1 _ rfl;have g2:=hf 2 _ rfl;simp[c1] at g0 g1 g2;obtain⟨n0,e0,_,w0⟩:=DataW.trod_int underlying3 g0;obtain⟨n1,e1,_,w1⟩:=DataW.trod_int underlying3 g1;obtain⟨n2,e2,_,w2⟩:=DataW.trod_int underlying3 g2;simp only[List.cons.injEq,and_true] at e0 e1 e2;subst e0 e1 e2;have f0:=g3 0 (by omega);have f1:=g3 1 (by omega);have f2:=g3 2 (by omega);rw[add0] at f0;exact⟨⟨n0,n1,n2⟩,by simpa using f0,by simpa using f1,by simpa using f2,wfI w0,wfI w1,wfI w2⟩
  obtain⟨q,hq⟩:=Zv6 each;refine⟨some a,(List.range len).map q,cap,by simp,⟨by unfold maxLen at hm;simp;omega,fun i hi=>?_⟩,?_,by simp,by simpa using hl,hm⟩
  ·have g7:i<len:=by simpa using hi
   obtain⟨f0,f1,f2,_⟩:=hq i g7;have g4:a.spot=none:=by
    obtain⟨q0,_⟩:=hq 0 (by omega);have:=Zgb q0;simpa [Addr.add] using this
   obtain⟨b,off,spot⟩:=a;dsimp only at g4;subst g4;simp only[Znd] at f0 f1 f2;exact⟨b,off,rfl,by simpa using f0,by simpa using f1,by simpa using f2⟩
  . intro ev g8;obtain⟨i,hi,rfl⟩:=List.mem_map.1 g8;exact(hq i (by simpa using hi)).2.2.2
theorem open_ask {H:Type}{enc:TypeId×Value->H}{w:World}{base:Nat}{held:Bool}{fuel:Nat}{v:Value}{cs:Array Value}{x:DataW H×List MemPlace}(hv:v=.agg cs)
 (h:DataW.trod enc prog w base (fun _=>true) held fuel 26 v.cells.toList=some x):∃ q ao ae ap co ce cp,v=askV q ao ae ap co ce cp/\AskAt w q ao ae ap/\(∀ ev∈q.plan,okI ev.after/\okI ev.kind/\okI ev.level)/\(ao=none->co=0)/\(ap=none->cp=0)/\q.plan.length<=cp/\cp<=maxLen:=by
 subst hv;obtain⟨xs,k,hk,gi,g5,g7,hf⟩:=DataW.trod_struct underlying26 h;have c1:prog.cellsOf 3=1:=by kernel_rfl
 have c2:prog.cellsOf 22=1:=by kernel_rfl
 have c4:prog.cellsOf 23=1:=by kernel_rfl
 have c5:prog.cellsOf 24=1:=by kernel_rfl
 have c3:prog.cellsOf 26=4:=by kernel_rfl
 rw[c3] at g5;obtain⟨cl⟩:=cs;simp only[Value.cells] at g5 hf
 match xs,g7,cl,g5 with
 | [y0,y1,y2,y3],_,[v0,v1,v2,v3],_ =>
   have g0:=hf 0 _ rfl;have g1:=hf 1 _ rfl;have g2:=hf 2 _ rfl;have g3:=hf 3 _ rfl;simp[c1,c2,c4,c5] at g0 g1 g2 g3;obtain⟨n0,e0,_,w0⟩:=DataW.trod_int underlying3 g0;simp only[List.cons.injEq,and_true] at e0;subst e0;obtain⟨ao,zs,co,e1,gf,gc⟩:∃ a zs c,v1=.slice a zs.length c/\Zav w a zs/\(a=none->c=0):=by
    rcases open_ints underlying22 underlying3 (by kernel_rfl) g1 with ⟨g4,_⟩|⟨x,l,c,zs,g4,_,hl,hm,hz,_,g6,g8⟩
    . simp at g4;subst g4;obtain⟨a,c,e,h1,h2⟩:=sliceIs_of_row (w:=w) (a:=none) (len:=0) (cap:=0) (.inl ⟨rfl,rfl,rfl,rfl⟩);exact⟨a,_,c,e,h1,h2⟩
    . simp at g4;subst g4;obtain⟨a,c,e,h1,h2⟩:=sliceIs_of_row (w:=w) (.inr ⟨_,rfl,hl,hm,by simpa using hz,g6,g8⟩);exact⟨a,_,c,e,h1,h2⟩
   obtain⟨ae,es,ce,e2,gh⟩:=Zut g2;obtain⟨ap,evs,cp,e3,gg,g9,ga,ge,gd⟩:=open_evs g3;simp only[List.cons.injEq,and_true] at e2 e3;subst e1 e2 e3;exact⟨⟨n0,zs,es,evs⟩,ao,ae,ap,co,ce,cp,rfl,⟨wfI w0,gf,gh,gg⟩,g9,gc,ga,ge,gd⟩
end Go.Proofs.YtkidaindpahefaaGreat
