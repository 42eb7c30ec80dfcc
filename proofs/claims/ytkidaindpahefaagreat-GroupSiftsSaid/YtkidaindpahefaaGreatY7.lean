/- Several texts in one file: contracts of the program's functions and what follows from them. -/
import Derived.Test.YtkidaindpahefaaGreatY6
import Derived.Defers
set_option linter.unusedSimpArgs false
set_option linter.unusedVariables false
set_option linter.unusedSectionVars false
set_option linter.unnecessarySimpa false
set_option maxRecDepth 100000
set_option maxHeartbeats 8000000
namespace Go.Proofs.YtkidaindpahefaaGreat
open Go.Proofs.Tryz
open Go.RowKit
variable {B:Wd->Own->Prop}{C:Nat->Prop}{F G:BF}{K:Law}{Od P':List Nat->Prop}{P:Program}{Q:Exit->Act->Wd->Prop}{T:TypeId}{V V':Nat->BF}{W W' w w' w0 wb wr:Wd}{a:Act}{args lop:Array Value}{b:BN}{base c e f g gb h i j k mb n room t x:Nat}{d:Ae}{fs hs:List (Int×BF)}{gs:List (List Int)}{lv u v v' vl vs vx z:Value}{m m':ManD}{nx:Int}{o' o0:Own}{ops:Array Oper}{os pl:List Nat}{rest:List Oper}{ws ws0:List Ev}{xs:List Value}{zs:List Int}
section
variable (w:Wd)
theorem Tm (t ty e:TypeId)(i:TypeInfo)(ht:P.underlying t=some (.slice e))(hi:P.info? e=some i)
 (g off sLen sCap:Nat) (cur:Array Value) (hg:w.heap[g]?=some (.cells cur e (0,0)))
 (a:Addr) (m c:Nat) (news:List Value) (hl:news.length=m*i.size) (hnews:∀ j u,news[j]?=some u->w.cell? (a.add j)=some u) (h1:∀ u∈news,u.oneCell'=true)
 (hroom:sLen+m<=sCap) (hfit:off+sLen*i.size+news.length<=cur.size) :
 (Builtin.append_ #[t,t] ty #[.slice (some (Aw g off)) sLen sCap,.slice (some a) m c]).run P w =
  .ok (.slice (some (Aw g off)) (sLen+m) sCap) (w.setRow g (cur.toList.take (off+sLen*i.size)++news++cur.toList.drop (off+sLen*i.size+news.length)).toArray):=by
 have hf:=run_firstCells_some (P:=P) w i.size m a m c news hl hnews;have g0:=run_storeCells_at P g (off+sLen*i.size) e news 0 cur w hg (by simpa using hfit) h1;simp only[Xj] at g0;have g1:((Aw g off):Addr).add (sLen*i.size)=(Aw g (off+sLen*i.size)):=by unfold Addr.add;split<;>simp_all
 simp[Builtin.append_,VP ht,sizeOf,typeInfo,hi,Builtin.lenOf,hroom,hf,g1,g0]
end
theorem Tn:(prog.info? 77).map (fun i=>(i.zero,i.size,i.bytes))=some (some (.agg #[Iv 0,Iv 0,Iv 0]),3,24):=by kernel_rfl
theorem To (l:List Ev):∀ (j:Nat) (u:Value),(l.flatMap evL)[j]?=some u->∃ hk:j/3<l.length,(evL (l[j/3]))[j%3]?=some u:=by
 induction l with
 | nil=>intro j u h;simp at h
 | cons e l ih =>
   intro j u h;rw[WO] at h
   by_cases hj:j<3
   ·rw[VN (by show j<3;exact hj)] at h;have e0:j/3=0:=by omega
    refine⟨by rw[e0];simp,?_⟩;have e1:j%3=j:=by omega
    simp only[e0,e1,List.getElem_cons_zero];exact h
   ·rw[Wh (by show 3<=j;omega)] at h;obtain⟨hk,h2⟩:=ih (j-3) u h;have e0:j/3=(j-3)/3+1:=by omega
    have e1:j%3=(j-3)%3:=by omega
    refine⟨by rw[e0,VG];omega,?_⟩;simp only[e0,e1,List.getElem_cons_succ];exact h2
theorem EvsAt.news {b off:Nat}{l:List Ev}(h:EvsAt w (some (Aw b off)) l):∀ j u,(l.flatMap evL)[j]?=some u->w.cell? (((Aw b off):Addr).add j)=some u:=by
 intro j u hu;have g0:((Aw b off):Addr).add j=(Aw b (off+j)):=by unfold Addr.add;split<;>simp_all
 obtain⟨hk,h2⟩:=To l j u hu;obtain⟨b',off',e,c0,c1,c2⟩:=h.cells (j/3) hk;cases e;rw[g0];have hm:j%3<3:=Nat.mod_lt _ (by decide);rcases(by omega:j%3=0\/j%3=1\/j%3=2) with e|e|e<;>rw[e] at h2
 ·have e2:j=j/3*3:=by omega
  rw[e2,c0];exact h2
 ·have e2:j=j/3*3+1:=by omega
  rw[e2,<- Xu,c1];exact h2
 ·have e2:j=j/3*3+2:=by omega
  rw[e2,<- Xu,c2];exact h2
theorem Tp (l:List Ev):∀ u∈l.flatMap evL,u.oneCell'=true:=by
 intro u hu;obtain⟨e,_,h⟩:=XP.1 hu;simp only[evL,VX,XK,or_false] at h;rcases h with rfl|rfl|rfl<;>rfl
theorem M9 {o:Own}{l:List Ev}{a:Option Addr}(h:Bh o w v ws)(hlt:Ab o w)(hev:EvsAt w a l)(hsm:ws.length+l.length<=1000)(ty:TypeId) :
 ∃ v' w' o',(Builtin.append_ #[24,24] ty #[v,.slice a l.length c]).run prog w=.ok v' w'/\Bh o' w' v' (ws++l)/\Chg (· = .waits) o o' w w'/\Ab o' w':=by
 obtain⟨i,hi,hz,g3,gc⟩:=Xv Tn;have ht:=underlying24
 by_cases h0:l=[]
 ·subst h0;refine⟨v,w,o,?_,by rw[WM];exact h,Chg.refl _ _ _,hlt⟩;rcases h.ex with ⟨rfl,rfl⟩|⟨g,off,cap,cur,rfl,_,_,hn,_⟩
  . cases a<;>simp[Builtin.append_,VP ht,sizeOf,typeInfo,hi,Builtin.lenOf,Builtin.firstCells,loadCells,loadCellsFrom]
  . cases a<;>simp[Builtin.append_,VP ht,sizeOf,typeInfo,hi,Builtin.lenOf,hn,Builtin.firstCells,storeCells,loadCells,loadCellsFrom]
 ·have ga:0<l.length:=X5.2 h0;obtain⟨b,off,rfl,_⟩:=hev.cells 0 ga;have g0:=hev.news;have gd:=Tp l;have g5:(l.flatMap evL).length=l.length*i.size:=by rw[g3];exact Ek l
  have g9:(ws.flatMap evL++l.flatMap evL).length=(ws++l).length*3:=by rw[Vr,Ek,Ek,Vr];omega
  have mk:∀ (old:Nat),Bh (AH o w.heap.size .waits) (w.drew.alloc (.cells ((ws.flatMap evL).toArray++(l.flatMap evL).toArray++Builtin.zeroCells (Value.agg #[Iv 0,Iv 0,Iv 0]).cells (grownCap w (ws.length+l.length) old 77-(ws.length+l.length))) 77)) (.slice (some (Av w.heap.size)) (ws.length+l.length) (grownCap w (ws.length+l.length) old 77)) (ws++l) /\
   Chg (· = .waits) o (AH o w.heap.size .waits) w (w.drew.alloc (.cells ((ws.flatMap evL).toArray++(l.flatMap evL).toArray++Builtin.zeroCells (Value.agg #[Iv 0,Iv 0,Iv 0]).cells (grownCap w (ws.length+l.length) old 77-(ws.length+l.length))) 77)) /\
   Ab (AH o w.heap.size .waits) (w.drew.alloc (.cells ((ws.flatMap evL).toArray++(l.flatMap evL).toArray++Builtin.zeroCells (Value.agg #[Iv 0,Iv 0,Iv 0]).cells (grownCap w (ws.length+l.length) old 77-(ws.length+l.length))) 77)):=by
   intro old;have gi:=grownCap_ge w (ws.length+l.length) old 77;have g6:grownCap w (ws.length+l.length) old 77<=maxLen:=grownCap_le_maxLen w _ old _ (by unfold maxLen;omega);refine⟨⟨.inr ⟨w.heap.size,0,_,_,by rw[Vr],B5 _ _ _,Vq w.drew _,by rw[Vr];exact gi,g6,?_,?_⟩⟩,((Chg.refl (· = .waits) o w).drewN 1).allocR (w':=w.drewN 1) hlt _ rfl,Ab.allocR (w:=w.drewN 1) hlt _ .waits⟩
   . have e3:(Value.agg #[Iv 0,Iv 0,Iv 0]).cells.size=3:=rfl;simp only[Array.size_append,WJ,size_zeroCells,e3,Ek,VJ];omega
   . simp only[Array.toList_append,List.drop_zero,WU];rw[List.take_left' g9]
  rcases h.ex with ⟨rfl,rfl⟩|⟨g,off2,cap,cur,rfl,g8,hg,gh,g6,gj,g2⟩
  . have hr:=run_append_nil (P:=prog) w 24 ty 77 i _ ht hi hz (Aw b off) l.length c (l.flatMap evL) g5 g0 ga (by simp at hsm;omega) (by rw[gc];simp at hsm;omega);have hm:=mk 0;simp only[WI,VJ,List.flatMap_nil,Wz,Array.empty_append] at hm ⊢;exact⟨_,_,_,hr,hm⟩
  ·by_cases g4:ws.length+l.length<=cap
   ·have g1:off2+ws.length*i.size+(l.flatMap evL).length<=cur.size:=by rw[g5,g3];omega
    have hr:=Tm (P:=prog) w 24 ty 77 i ht hi g off2 ws.length cap cur hg (Aw b off) l.length c (l.flatMap evL) g5 g0 gd g4 g1;refine⟨_,_,o,hr,⟨.inr ⟨g,off2,cap,_,by rw[Vr],g8,setRow_heap w g cur _ _ _ hg,by rw[Vr];exact g4,g6,?_,?_⟩⟩,⟨rfl,rfl,rfl,by simp,fun k _ hk=>setRow_other w g k _ (by rintro rfl;exact hk _ g8 rfl),fun _ _ h=>h,fun _ h=>(h rfl).elim⟩,fun k q hq=>by have:=hlt k q hq;simpa using this⟩
    . simp only[WJ,Vr,VQ,XL,Array.length_toList];omega
    ·rw[g3] at g1 ⊢;have e1:(cur.toList.take (off2+ws.length*3)).drop off2=ws.flatMap evL:=by
      rw[<- g2,List.drop_take,Nat.add_sub_cancel_left]
     have e2:off2<=(cur.toList.take (off2+ws.length*3)).length:=by
      have hq:ws.length*3<=cap*3:=Wn _ gh;have gg:off2+ws.length*3<=cur.size:=by clear g1;omega
      have gf:cur.toList.length=cur.size:=Array.length_toList;rw[VQ,gf,Nat.min_eq_left gg];exact XR _ _
     simp only[VC];rw[List.drop_append_of_le_length e2,e1,<- VC,WU,List.take_left' g9]
   ·have g7:∀ j u,(ws.flatMap evL)[j]?=some u->w.cell? (((Aw g off2):Addr).add j)=some u:=by
     intro j u hu;have ge:((Aw g off2):Addr).add j=(Aw g (off2+j)):=by unfold Addr.add;split<;>simp_all
     rw[ge,Vp w g (off2+j) cur _ _ hg];rw[<- g2,XB] at hu;split at hu
     . rw[XC] at hu;simpa using hu
     . cases hu
    have hr:=run_append_grow (P:=prog) w 24 ty 77 i _ ht hi hz (Aw g off2) ws.length cap (ws.flatMap evL) (by rw[g3];exact Ek ws) g7 (Aw b off) l.length c (l.flatMap evL) g5 g0 (by omega) (by omega) (growslice_fits (by omega) (by rw[gc];omega));exact⟨_,_,_,hr,mk cap⟩
theorem Bh.form {o:Own}(h:Bh o w v ws):∃ a c,v=.slice a ws.length c:=by
 rcases h.ex with ⟨rfl,rfl⟩|⟨g,off,cap,cur,rfl,_⟩
 . exact⟨_,_,rfl⟩
 . exact⟨_,_,rfl⟩
theorem MA {op:Oper}(hgd:op.guard=none)(s x:Operand)(t:TypeId)
 (hop:op.op=.call { callee:=.builtin .append,args:=#[s,x],argTypes:=#[t,t] }) (hs:a.eval s=vs) (hx:a.eval x=vx) (hr:(Builtin.append_ #[t,t] op.type #[vs,vx]).run P w=.ok v' w')
 (hK:wpList P ops Q rest (a.put op.dst v') w'):wpList P ops Q (op::rest) a w:=by
 refine wpList_plain hgd fun K g0=>?_
 unfold Oper.wp execOp;simp only[hop,resolve,invoke,builtin,WG,Sem.run_pure,VZ,List.map_toArray,Wx,XM,hs,hx,hr];exact g0 _ _ hK
theorem A7.setWaits {F:Phi}{o:Own}{s:ManW}(h:A7 F o w mb m s)(hlt:Ab o w){l':List Ev}(hw:Bh o' w' v' l')(hc:Chg (· = .waits) o o' w w'):A7 F o' (w'.setCell (Aw mb 4) v') mb { m with waits:=l' } { s with vw:=v' }:=by
 have key:∀ {g r},o g=some r->r ≠ .man->r ≠ .waits->(w'.setCell (Aw mb 4) v').heap[g]?=w.heap[g]?:=by
  intro g r hg h1 h2;refine(A0 (p:=Aw mb 4) (fun e=>?_) _).trans (hc.same hlt hg h2);have e':g=mb:=e;subst e';have:=h.own;rw[hg] at this;cases this;exact h1 rfl
 refine⟨hc.ext _ _ h.own,?_,h.store.keepR (fun g r hg hr=>key hg (by rintro rfl;simp[Al,Bt] at hr) (by rintro rfl;simp[Al,Bt] at hr)) hc.ext,h.memo.keep (fun g r hg hr=>key hg (by rintro rfl;rcases hr with e|e<;>cases e) (by rintro rfl;rcases hr with e|e<;>cases e)) hc.ext,hc.ext _ _ h.ownh,h.map.keepB (key h.ownh (by simp) (by simp)),hw.keep (fun g hg=>A0 (p:=Aw mb 4) (fun e=>?_) _) (fun _ h=>h)⟩
 . exact A5 ((hc.same hlt h.own (by simp)).trans h.blk) _
 . have e':g=mb:=e;subst e';have:=hc.ext _ _ h.own;rw[hg] at this;cases this
section
variable {o:Own}
structure Planned (K:Law)(n:Nat)(Od:List Nat->Prop)(room:Nat)(w0:Wd)(mb:Nat)(fs:List (Int×BF))(nx:Int)(o:Own)(w:Wd)(m:ManD)(V:Nat->BF)(l:List Ev)(z:Int)(o':Own)(w':Wd)(m':ManD):Prop where
 sat:SatE K n Od room w0 mb fs nx w' o' m' V
 d:m'.d=m.d
 chg:Chg (fun _=>True) o o' w w'
 no:z≠0->m'.waits=m.waits/\m'.calls=m.calls
 yes:z=0->m'.waits=m.waits++l/\m'.calls=if m.waits=[] then 0 else m.calls
abbrev X7:=@Calls.quiet_of_same
theorem Tq (h:SatE K n Od room w0 mb fs nx w o m V){a:Option Addr}{l:List Ev}(hev:EvsAt w a l)(hno:0<l.length->∀ x,a=some x->o x.block=none)(hwl:m.waits.length<=256) :
 Cl 61 #[Pt mb,.slice a l.length c] w fun e w'=>e=.returned (Iv (Bo n m.waits.length l))/\∃ o' m',Planned K n Od room w0 mb fs nx o w m V l (Bo n m.waits.length l) o' w' m':=by
 obtain⟨Q,hQ⟩:=Ex (fun e w'=>e=.returned (Iv (Bo n m.waits.length l))/\∃ o' m',Planned K n Od room w0 mb fs nx o w m V l (Bo n m.waits.length l) o' w' m':Ending->Wd->Prop)
 rw[<- hQ];have HQ:=Hd hQ;clear hQ;have gI:=hev.len;have hn64:n<=64:=by rw[<- h.vars];exact h.ok.store.small
 obtain⟨s,hs⟩:=h.is;obtain⟨c0,c1,c2,c3,c4,c5,f0⟩:=cells6 hs.blk;obtain⟨av,cv,gj⟩:=hs.waits.form
 have g1:Hq (∀ (z:Int) W,Bw w W->Bo n m.waits.length l=z->z≠0->Q (.returned (Iv z)) W):=Hd (by
  intro z W hb hz h0;rw[HQ.o,hz];exact⟨rfl,o,m,h.below hb,rfl,Chg.of_below hb _ _,fun _=>⟨rfl,rfl⟩,fun e=>(h0 e).elim⟩)
 have HV:Hq (∀ W,Bw w W->Cl 62 #[Pt mb] W fun e w'=>e=.returned (Iv n)/\w'=W):=Hd (fun W hb=>(KA (h.below hb).is).mono fun e w' q=>⟨by rw[q.1,h.vars],q.2.symm⟩);have HI:=Hd hev;have HS:=Hd hs;have HH:=Hd h;have gF:=Hd hno;rw[gj] at c4;have gv:=Hd gj;have gD:=Hd hwl;clear h hs hev hno gj
 by_cases g9:(l.length:Int)>256-m.waits.length
 ·have HF:=Hd (g1.o 18 w (VA _ _) (by unfold Bo;rw[Vs g9]) (by decide))
  go_enter func61,ntmps61
  go_wp2_with fail;exact HF.o
 have HR:Hq (Bo n m.waits.length l=CW n (l.drop 0)):=Hd (by unfold Bo;rw[Vn g9];rfl);obtain⟨P,hP⟩:=Ex (Bo n m.waits.length l);rw[<- hP] at HR g1;have gE:=Hd hP;clear hP;have HM:=Hd g9
 go_enter func61,ntmps61
 go_wp2_with fail
 go_loopw [20] (fun s20 wr=>∃ i:Nat,i<=l.length/\s20=Iv i/\Hq (Bw w wr)/\Hq (P=CW n (l.drop i))) (fun s20 _=>l.length-(intOf s20).toNat)
 case atStart=>exact⟨0,Vu _,rfl,Hd (VA _ _),HR⟩
 case round =>
  clear HR;obtain⟨i,hi,rfl,HB,HP⟩:=hrel
  by_cases gg:i<l.length
  ·obtain⟨b,off,rfl,e0,e1,e2⟩:=(HI.o.below HB.o).cells i gg;have gB:(i:Int)<l.length:=by omega
   have HC:Hq (∀ z:Int,CV n l[i]=z->z≠0->P=z):=Hd fun z hz h0=>by rw[HP.o,Gl gg,hz,Vn h0]
   have HN:Hq (CV n l[i]=0->P=CW n (l.drop (i+1))):=Hd fun hz=>by rw[HP.o,Gl gg,hz,Vs rfl]
   have HE:Hq (CV n l[i]=if l[i].kind<1\/l[i].kind>3 then 11 else if l[i].after<1\/(l[i].kind=2/\(l[i].level<0\/l[i].level>(n:Int)-2)) then 2 else 0):=Hd rfl;obtain⟨ev,hev⟩:=Ex (l[i]);rw[<- hev] at e0 e1 e2 HC HN HE;obtain⟨af,ki,le⟩:=ev;dsimp only at e0 e1 e2 HE;clear hev HP c0 c1 c2 c3 c4 c5 f0;obtain⟨W,hW⟩:=Ex (wr.alloc (.cells #[Iv af,Iv ki,Iv le] 77));have gh:Bw w W:=HB.o.trans ((show Bw wr W by rw[hW];exact Af wr _).mono HB.o.size);obtain⟨bx,gn⟩:∃ q,q=wr.heap.size:=⟨_,rfl⟩;have hx:W.heap[bx]?=some (.cells #[Iv af,Iv ki,Iv le] 77 (0,0)):=by rw[hW,gn];exact Vq wr _
   have b0:W.cell? (Av bx)=some (Iv af):=by rw[Vp W _ 0 _ _ _ hx];rfl
   have b1:W.cell? (Aw bx 1)=some (Iv ki):=by rw[Vp W _ 1 _ _ _ hx];rfl
   have b2:W.cell? (Aw bx 2)=some (Iv le):=by rw[Vp W _ 2 _ _ _ hx];rfl
   have HW:=Hd hW;have gG:=Hd gn;have g0:=Hd gh;have g8:Hq (∀ q,Cl 62 #[Pt mb] (W.drewN q) fun e w'=>e=.returned (Iv n)/\w'=W.drewN q):=Hd (fun q=>HV.o _ (gh.trans ((An W q).mono gh.size)));have gi:=Hd gg;clear hW gn gh hx;go_upto_region 8 with fail;rw[<- HW.o,<- gG.o];have gz:ki<1\/ki>3\/(ki=2)\/(ki=1\/ki=3):=by omega
   rcases gz with hk|hk|hk|hk
   . have HF:=Hd (g1.o 11 W g0.o (HC.o 11 (by rw[HE.o,Vs (.inl hk)]) (by decide)) (by decide));go_wp2_with fail;exact HF.o
   ·have HF:=Hd (g1.o 11 W g0.o (HC.o 11 (by rw[HE.o,Vs (.inr hk)]) (by decide)) (by decide));have gA:¬ ki<1:=by omega
    go_wp2_with fail;exact HF.o
   ·by_cases ha:af<1
    ·have HF:Hq (∀ q,Q (.returned (Iv 2)) (W.drewN q)):=Hd (fun q=>g1.o 2 _ (g0.o.trans ((An W q).mono g0.o.size)) (HC.o 2 (by rw[HE.o,Vn (by omega),Vs (.inl ha)]) (by decide)) (by decide));subst hk;go_upto_region 10 with fail
     go_quiet (with_reducible exact X7 (g8.o _))
     go_wp2_with fail;exact HF.o _
    ·by_cases gy:le<0
     ·have HF:Hq (∀ q,Q (.returned (Iv 2)) (W.drewN q)):=Hd (fun q=>g1.o 2 _ (g0.o.trans ((An W q).mono g0.o.size)) (HC.o 2 (by rw[HE.o,Vn (by omega),Vs (.inr ⟨hk,.inl gy⟩)]) (by decide)) (by decide));subst hk;go_upto_region 10 with fail
      go_quiet (with_reducible exact X7 (g8.o _))
      go_wp2_with fail;exact HF.o _
     ·by_cases gc:le>=(n:Int)-1
      ·have HF:Hq (∀ q,Q (.returned (Iv 2)) (W.drewN q)):=Hd (fun q=>g1.o 2 _ (g0.o.trans ((An W q).mono g0.o.size)) (HC.o 2 (by rw[HE.o,Vn (by omega),Vs (.inr ⟨hk,.inr (by omega)⟩)]) (by decide)) (by decide));subst hk;go_upto_region 10 with fail
       go_quiet (with_reducible exact X7 (g8.o _))
       go_wp2_with fail;exact HF.o _
      ·have gd:=Hd (HN.o (by rw[HE.o,Vn (by omega),Vn (by omega)]));subst hk;go_upto_region 10 with fail
       go_quiet (with_reducible exact X7 (g8.o _))
       have gp:=Hd (g0.o.trans ((An W nq).mono g0.o.size));go_wp2_with fail;go_roundw
       case rel=>exact⟨i+1,XI gi.o,by go_num,gp,gd⟩
       case measure =>
        have:=gi.o;simp[intOf];omega
   ·have gA:¬ ki<1:=by omega
    have gK:¬ ki>3:=by omega
    have gJ:(ki == 2)=false:=by simp;omega
    by_cases ha:af<1
    ·have HF:Hq (∀ q,Q (.returned (Iv 2)) (W.drewN q)):=Hd (fun q=>g1.o 2 _ (g0.o.trans ((An W q).mono g0.o.size)) (HC.o 2 (by rw[HE.o,Vn (by omega),Vs (.inl ha)]) (by decide)) (by decide));clear hk;go_upto_region 10 with fail
     go_quiet (with_reducible exact X7 (g8.o _))
     go_wp2_with fail;exact HF.o _
    ·have gd:=Hd (HN.o (by rw[HE.o,Vn (by omega),Vn (by omega)]));clear hk;go_upto_region 10 with fail
     go_quiet (with_reducible exact X7 (g8.o _))
     have gp:=Hd (g0.o.trans ((An W nq).mono g0.o.size));go_wp2_with fail;go_roundw
     case rel=>exact⟨i+1,XI gi.o,by go_num,gp,gd⟩
     case measure =>
      have:=gi.o;simp[intOf];omega
  ·have he:i=l.length:=by omega
   have gB:¬ (i:Int)<l.length:=by omega
   have gd:Hq (P=0):=Hd (by rw[HP.o,he,List.drop_length];rfl);clear he;have hs':=HS.o.below HH.o.lt HB.o;have g3:=HH.o.lt.mono HB.o.size;have gq:m.waits.length+l.length<=1000:=by have:=HM.o;have:=gD.o;omega
   have go:Hq (∀ (cl:Int) (W:Wd) (hm:A7 (K m.d V) o W mb { m with calls:=cl } s) (hl:Ab o W) (hc:Chg (fun _=>True) o o w W) (v':Value) (W':Wd) (o':Own),cl=(if m.waits=[] then 0 else m.calls)->Bh o' W' v' (m.waits++l)->Chg (· = .waits) o o' W W'->Ab o' W'->Q (.returned (Iv 0)) (W'.setCell (Aw mb 4) v')):=Hd (by
    intro cl W hm hl hc v' W' o' gC hw gm gx;rw[HQ.o,<- gE.o,gd.o];have gw:=hm.setWaits hl hw gm;have gt:Chg (fun _=>True) o o' w (W'.setCell (Aw mb 4) v'):=(hc.trans gm.any).setCell (p:=Aw mb 4) (gm.ext _ _ hm.own) trivial _;exact⟨rfl,o',{ m with waits:=m.waits++l,calls:=cl },⟨⟨_,gw⟩,gx.mono (by simp[World.setCell]),⟨HH.o.ok.store,⟨HH.o.ok.handles.nodup,HH.o.ok.handles.zero,HH.o.ok.handles.one,HH.o.ok.handles.lt,HH.o.ok.handles.next,HH.o.ok.handles.ok,HH.o.ok.handles.len,HH.o.ok.handles.refs⟩⟩,HH.o.vars,HH.o.od,HH.o.room,HH.o.next,HH.o.hs,HH.o.chg.lower (ChgX.of_chg gt NoB) (fun _ e=>e.elim)⟩,rfl,gt,fun e=>(e rfl).elim,fun _=>⟨rfl,gC⟩⟩)
   have ge:=HI.o.below HB.o;clear c0 c1 c2 c3 c4 c5 f0;obtain⟨c0,c1,c2,c3,c4,c5,f0⟩:=cells6 hs'.blk
   by_cases hw0:m.waits=[]
   ·have hz:m.waits.length=0:=by rw[hw0];rfl
    have HZ:=Hd hz;have g7:A7 (K m.d V) o (wr.setCell (Aw mb 5) (Iv 0)) mb { m with calls:=0 } s:=hs'.field rfl rfl rfl rfl rfl (hs'.waits) rfl;have gu:Chg (fun _=>True) o o w (wr.setCell (Aw mb 5) (Iv 0)):=(Chg.of_below HB.o _ _).setCell (p:=Aw mb 5) hs'.own trivial _;have gc:Ab o (wr.setCell (Aw mb 5) (Iv 0)):=g3.mono (by simp[World.setCell])
    have gr:EvsAt (wr.setCell (Aw mb 5) (Iv 0)) a l:=⟨ge.len,fun k hk=>by
     obtain⟨b,off,e,q0,q1,q2⟩:=ge.cells k hk;have gl:mb≠b:=by
      rintro rfl;have:=gF.o (by omega) _ e;have h2:=hs'.own;rw[h2] at this;cases this
     exact⟨b,off,e,Cs q0 (.inl gl),Cs q1 (.inl gl),Cs q2 (.inl gl)⟩⟩
    obtain⟨v',w2,o2,g2,g4,g5,ga⟩:=M9 (c:=c) g7.waits gc gr gq 24;obtain⟨av2,cv2,gk⟩:=g4.form;subst gk;have HF:=Hd (go.o 0 _ g7 gc gu _ w2 o2 (by rw[Vs hw0]) g4 g5 ga);obtain⟨k0,k1,k2,k3,k4,k5,kf⟩:=cells6 g7.blk;have g6:=(g5.same gc g7.own (by simp)).trans g7.blk;obtain⟨j0,j1,j2,j3,j4,j5,jf⟩:=cells6 g6;rw[gv.o,hz] at c4 k4 g2;clear hs' g3 g7 gu gc gr g4 g5 ga ge hw0 g6 k0 k1 k2 k3 k5 kf;have gf:=Hd g2;clear g2;go_upto_region 15 with fail;go_wp2_with (refine MA rfl _ _ _ rfl rfl rfl gf.o ?_);have hq:=HF.o;rw[Vr,HZ.o,VJ] at hq;exact hq
   ·have hz:0<m.waits.length:=X5.2 hw0;have gH:((m.waits.length:Int) == 0)=false:=by rw[Xq];omega
    obtain⟨v',w2,o2,g2,g4,g5,ga⟩:=M9 (c:=c) hs'.waits g3 ge gq 24;obtain⟨av2,cv2,gk⟩:=g4.form;subst gk;have HF:=Hd (go.o m.calls _ hs' g3 (Chg.of_below HB.o _ _) _ w2 o2 (by rw[Vn hw0]) g4 g5 ga);have g6:=(g5.same g3 hs'.own (by simp)).trans hs'.blk;obtain⟨j0,j1,j2,j3,j4,j5,jf⟩:=cells6 g6;rw[gv.o] at c4 g2;clear hs' g3 g4 g5 ga ge hw0 g6 hz;have gf:=Hd g2;clear g2;go_upto_region 15 with fail;go_wp2_with (refine MA rfl _ _ _ rfl rfl rfl gf.o ?_);have hq:=HF.o;rw[Vr] at hq;exact hq
end
section
variable {o:Own}
theorem E7 (h:n<=16):2^n<=1000000:=Vx (Wo (by omega) h) (by decide)
abbrev SufW (ws0:List Ev):List Ev->Int->Prop:=fun ws _=>ws <:+ ws0
end
def Bf (n:Nat):Nat:=4*2^(2*n)+192*2^n
theorem Tr (n:Nat)(hn:n<=8)(w:Wd):Cl 112 #[Iv n,Iv 40] w (Sm (Iv (Bf n)) w):=by
 have HB:Hq (∀ (z:Int) (k:Nat),z=k->k<=16->Cl 158 #[Iv z] w (Sm (Iv (2^k:Nat)) w)):=Hd fun z k e hk=>by subst e;exact QI k (by omega) w
 have hA:2^(2*n)<=65536:=Vx (Wo (by omega) (show 2*n<=16 by omega)) (by decide);have hB:2^n<=65536:=Vx (Wo (by omega) (show n<=16 by omega)) (by decide);have g0:=Hd (fun z e=>HB.o z (2*n) e (by omega));have HB2:=Hd (fun z e=>HB.o z n e (by omega));unfold Bf;obtain⟨a,ha⟩:=Ex (2^(2*n));obtain⟨b,hb⟩:=Ex (2^n);rw[<- ha] at hA g0 ⊢;rw[<- hb] at hB HB2 ⊢;clear ha hb HB
 go_enter func112,ntmps112
 go_wp2_with fail;refine(g0.o _ (by omega)).mono ?_;rintro x w' ⟨rfl,rfl⟩;go_wp2_with fail;refine(HB2.o _ (by omega)).mono ?_;rintro x w' ⟨rfl,rfl⟩;go_wp2_with fail;go_ret;exact⟨by congr 2,rfl⟩
theorem Ts (n:Nat)(hn:n<=8)(w:Wd):Cl 57 #[Iv n,Iv 40] w (Sm (Iv (Bf n)) w):=by
 have HE:=Hd (Tr n hn w)
 go_enter func57,ntmps57
 go_wp2_with fail;refine HE.o.mono ?_;rintro x w' ⟨rfl,rfl⟩;go_wp2_with fail;go_ret;exact⟨rfl,rfl⟩
theorem Tt (hn:n<=6):1<=Bf n/\Bf n<=1048576:=by
 have h1:2^(2*n)<=4096:=Vx (Wo (by omega) (show 2*n<=12 by omega)) (by decide);have h2:2^n<=64:=Vx (Wo (by omega) hn) (by decide);have h3:0<2^n:=WR (by omega);unfold Bf;omega
theorem MB (hk:k<=192):k*2^n<=Bf n:=by
 have:=Wn (2^n) hk;unfold Bf;omega
theorem Tu {s:Nat}(hn:1<=n)(hs:s<=40)(hj:j<5):2*2^n+j*(39*2^n+1)+s*2^n<=Bf n:=by
 have h1:=Wn (2^n) hs;have h2:=Wn (39*2^n+1) (Nat.le_of_lt_succ hj);have h3:2^1<=2^n:=Wo (by omega) hn;have h4:2^(n+1)<=2^(2*n):=Wo (by omega) (by omega);rw[WS] at h4;unfold Bf;omega
theorem Tv {s:Nat}(hs:s<=40)(h1:1<=s)(h:k<=2*2^n+j*(39*2^n+1)+Ci n s):k<=2*2^n+(j+1)*(39*2^n+1):=by
 have h2:=Gy n h1;have h3:=Wn (2^n) hs;rw[WY];have h4:0<2^n:=WR (by omega);omega
theorem Tw (hj:j<=5)(h:k<=2*2^n+j*(39*2^n+1))(hn:2<=n):k+7<=Bf n:=by
 have h2:=Wn (39*2^n+1) hj;have h3:2^2<=2^n:=Wo (by omega) hn;have h4:2^(n+2)<=2^(2*n):=Wo (by omega) (by omega);rw[Nat.pow_add] at h4;unfold Bf;omega
def two:List (Int×BF):=[(0,fun _=>false),(1,fun _=>true)]
theorem MC:B2 two:=⟨by simp[two],by simp[two]⟩
theorem Tx (n room:Nat)(w:Wd)(hn:n<=64)(h1:1<=room)(h2:room<=1048576) :
 Cl 39 #[Iv n,Iv room] w fun x w'=>∃ mb,x=.returned (.tuple #[Pt mb,Iv 0])/\∃ o m V,SatE K n (fun _=>True) room w mb two 2 w' o m V/\m.waits=[]/\m.calls=0/\m.d.pool.many=0:=by
 refine(K9 (F:=K (man0 n room).d (fun _ _=>true)) (fun _=>none) n room w (fun k r h=>by cases h) hn h1 h2).mono ?_;rintro x w1 ⟨mb,o1,rfl,g0,g2,g1,_⟩;exact⟨mb,rfl,o1,man0 n room,fun _ _=>true,⟨g0,g1,K8 n room hn,by simp[man0,store0],trivial,by simp[man0,store0,pool0],rfl,by simp[man0,two,ef];constructor<;>rfl,ChgX.of_chg g2 NoB⟩,rfl,rfl,rfl⟩
def OrdP (zs:List Int)(l:List Nat):Prop:=∀ j,j<zs.length->((l.getD j 0:Nat):Int)=at0 zs j
def SetP (K:Law)(q:AskD)(n:Nat)(w:Wd)(y:Ending)(w':Wd):Prop :=
 ∃ mb vl vx wb hs nx,y=.returned (.tuple #[Pt mb,vl,vx,.bool true])/\Bw w wb/\hs.map Prod.snd=q.es.map fnT/\nx<=1000/\∃ o m V,LawT K n (OrdP q.order) (Bf n) wb mb (two++hs) nx (fun ws c=>ws=q.plan/\c=0) hs hs w' o m V vl vx/\(2<=n->m.d.pool.many+7<=Bf n)
def SetI (K:Law)(q:AskD)(n:Nat)(wb:Wd)(mb:Nat)(j:Nat)(s8 s9:Value)(W:Wd):Prop :=
 ∃ hs nx,hs.map Prod.snd=(q.es.take j).map fnT/\nx<=2+120*(j:Int)/\∃ o m V,LawT K n (OrdP q.order) (Bf n) wb mb (two++hs) nx (fun ws c=>ws=[]/\True) hs hs W o m V s8 s9/\m.d.pool.many<=2*2^n+j*(39*2^n+1)
theorem Ty (hK:Bb K)(q:AskD)(ao ae ap:Option Addr)(co ce cp:Nat)(w:Wd)(h:AskAt w q ao ae ap)(hsm:D7 q)(n:Nat)(hqn:q.vars=n) :
 Cl 17 #[askV q ao ae ap co ce cp] w (SetP K q n w):=by
 have hM:=hsm.lo;have hO:=hsm.hi;have hP:=hsm.es;have hL:=hsm.plan;have gL:=Hd hsm;have hr:=Hd h;have hu:n<=6:=by omega
 have hy:1<=n:=by omega
 have gD:=Tt hu;obtain⟨Q,hQ⟩:=Ex (SetP K q n w:Ending->Wd->Prop);rw[<- hQ];have HQ:=Hd hQ;obtain⟨w1,gg⟩:=Ex (w.alloc (.cells #[Iv q.vars,.slice ao q.order.length co,.slice ae q.es.length ce,.slice ap q.plan.length cp] 26));have HW1:Hq (_=w1):=Hd gg.symm;have hd:Hq (Bw w w1):=by rw[gg];exact Hd (Af _ _)
 have g0:w1.heap[w.heap.size]?=some (.cells #[Iv q.vars,.slice ao q.order.length co,.slice ae q.es.length ce,.slice ap q.plan.length cp] 26 (0,0)):=by rw[gg];exact Vq _ _
 have hs1:w1.heap.size=w.heap.size+1:=by rw[gg];simp
 have gP:=Hd hqn;rw[hqn] at g0 HW1;have d0:w1.cell? (Av w.heap.size)=some (Iv (n:Nat)):=by rw[Vp _ _ 0 _ _ _ g0];rfl
 have d1:w1.cell? (Aw w.heap.size 1)=some (.slice ao q.order.length co):=by rw[Vp _ _ 1 _ _ _ g0];rfl
 have d2:w1.cell? (Aw w.heap.size 2)=some (.slice ae q.es.length ce):=by rw[Vp _ _ 2 _ _ _ g0];rfl
 have d3:w1.cell? (Aw w.heap.size 3)=some (.slice ap q.plan.length cp):=by rw[Vp _ _ 3 _ _ _ g0];rfl
 have gZ:=hqn;unfold askV;rw[gZ];obtain⟨rm,gl⟩:=Ex (Bf n);have gM:=Hd gl;have gN:=Hd (fun W=>Ts n (by omega) W);rw[<- gl] at gN gD;clear h hsm hQ gg g0 gl hqn gZ;have gR:=Hd (Tx (K:=K) n rm w1.drew (by omega) gD.1 gD.2)
 go_enter func17,ntmps17
 go_upto_region 1 with fail;rw[HW1.o];refine AD (fun W:Wd=>W.cell? (Av w.heap.size)=some (Iv (n:Nat))/\True) false 11 [(0,false),(1,false),(2,false),(3,false),(4,true),(5,true),(6,false),(7,false),(8,false),(9,false),(10,false)] (by kernel_rfl) (by kernel_rfl) ⟨d0,trivial⟩ ?_;simp only[planned,AC]
 iterate 4
  refine As rfl ?_;apply Exists.intro;refine⟨fun w' hw=>?_,?_⟩
  . obtain⟨h1,_⟩:=hw;go_simp;rfl
  simp only[Ac]
 refine Cd (R:=fun v w'=>v=Iv (rm:Nat)/\w'=w1.drew) rfl (by go_simp) ((gN.o _).mono (fun e w' he=>?_)) ?_
 . obtain⟨rfl,rfl⟩:=he;exact⟨_,rfl,⟨d0,trivial⟩,rfl,rfl⟩
 rintro v w'-⟨rfl,rfl⟩;simp only[Ac];refine Cd (R:=fun v w'=>∃ mb,v=.tuple #[Pt mb,Iv 0]/\∃ o m V,SatE K n (fun _=>True) rm w1.drew mb two 2 w' o m V/\m.waits=[]/\m.calls=0/\m.d.pool.many=0) rfl (by go_simp) (gR.o.mono (fun e w' he=>?_)) ?_
 . obtain⟨mb,rfl,o,m,V,g5,gU⟩:=he;exact⟨_,rfl,⟨(g5.chg.below0.cell (p:=Av w.heap.size) (Ah (w:=w1.drew) d0)).trans d0,trivial⟩,mb,rfl,o,m,V,g5,gU⟩
 rintro v w2-⟨mb,rfl,o,m,V,g5,gV,hD,h2⟩;simp only[Ac]
 iterate 5
  refine As rfl ?_;apply Exists.intro;refine⟨fun w' hw=>?_,?_⟩
  . obtain⟨h1,_⟩:=hw;go_simp;rfl
  simp only[Ac]
 refine Bs ?_;obtain⟨wb,g7⟩:=Ex w1.drew;rw[<- g7] at g5;have hb:Hq (Bw w wb):=Hd (by rw[g7];exact hd.o.trans ((An w1 1).mono hd.o.size));have c0:wb.cell? (Av w.heap.size)=some (Iv (n:Nat)):=by rw[g7];exact d0
 have c1:wb.cell? (Aw w.heap.size 1)=some (.slice ao q.order.length co):=by rw[g7];exact d1
 have c2:wb.cell? (Aw w.heap.size 2)=some (.slice ae q.es.length ce):=by rw[g7];exact d2
 have c3:wb.cell? (Aw w.heap.size 3)=some (.slice ap q.plan.length cp):=by rw[g7];exact d3
 have hR:w.heap.size<wb.heap.size:=Ah c0;have gj:=Hd (hr.o.below hb.o);clear g7 gR gN d0 d1 d2 d3 HW1 hs1
 have gT:=Hd (Ti (K:=K) g5 (by omega) (by rw[gM.o];have:=MB (n:=n) (k:=6) (by omega);simp[two];omega) (c:=co) (gj.o.order.below g5.chg.below0) (fun h0 x hx=>by
  obtain⟨b,off,e,hc⟩:=gj.o.order.cells 0 h0;rw[hx] at e;cases e;exact g5.none0 (Ah hc)) (by
  rcases Nat.eq_zero_or_pos q.order.length with h0|h0
  . exact .inl h0
  . have:=gL.o.order h0;rw[gP.o] at this;exact .inr (Gv this)))
 have e0:=Cq g5.chg.below0 c0;have e1:=Cq g5.chg.below0 c1;have HWT:=Hd gV;have hI:=Hd h2;clear g5 gV hD h2;go_wp2_with fail;refine gT.o.mono ?_;rintro y w3 ⟨rfl,o3,m3,V3,gc,gy,hn,hE,gF⟩;have ha:Hq (SetI K q n wb mb 0 (.slice none 0 0) (.slice none 0 0) w3):=Hd ⟨[],2,rfl,by omega,o3,m3,V3,⟨by rw[gM.o] at gc;exact gc,MC,⟨by rw[gy,HWT.o],trivial⟩,⟨Iw _ _ _,fun k hk=>by cases hk⟩,⟨⟨[],rfl,Iw _ _ _,fun i v hv=>by simp at hv⟩,fun k hk=>by cases hk⟩⟩,by have:=hI.o;simp[two] at gF;omega⟩;have f2:=Cq gc.chg.below0 c2;clear gc gy hn hE gF gT e0 e1;go_wp2_with fail
 go_loopw [8,9,40] (fun s8 s9 s40 wr=>∃ j:Nat,j<=q.es.length/\s40=Iv j/\Hq (SetI K q n wb mb j s8 s9 wr)) (fun _ _ s40 _=>q.es.length-(intOf s40).toNat)
 case atStart=>exact⟨0,Vu _,rfl,ha⟩
 case round =>
  clear ha f2
  rename Wd=>wy
  obtain⟨j,hj,rfl,HI⟩:=hrel;obtain⟨hs,nx,gk,hnx,hz⟩:=HI.o;obtain⟨o0,m0,V0,gm,gG⟩:=hz;have gw:Hq (∃ o m V,LawT K n (OrdP q.order) (Bf n) wb mb (two++hs) nx (fun ws c=>ws=[]/\True) hs hs wy o m V u8 u9/\m.d.pool.many<=2*2^n+j*(39*2^n+1)):=Hd ⟨o0,m0,V0,gm,gG⟩;have gI:=gm.below0;have hq:=Hd gI;have gK:=Hd gk;have hC:hs.length=j:=by have:=Wb List.length gk;simpa [Nat.min_eq_left hj] using this
  clear HI gk gm gG gI o0 m0 V0
  by_cases gH:j<q.es.length
  ·have hA:(j:Int)<q.es.length:=by omega
   have gv:=hq.o;obtain⟨b,off,x0,x1,x2,ea,k0,k1,k2,hx⟩:=gj.o.es.cells j gH;subst ea;obtain⟨zo,zv,za,zn,zc,rfl,rfl,rfl⟩:=hx.parts;have gi:=Hd (gL.o.expr _ (Vv gH));have ga:=gi.o.1;have gz:=ExT.size_pos q.es[j];obtain⟨e,he⟩:=Ex (q.es[j]);rw[<- he] at hx gi ga gz;have HX:=Hd hx;have q0:=Cq gv k0;have q1:=Cq gv k1;have q2:=Cq gv k2;have hH:Hq ((q.es.take (j+1)).map fnT=(q.es.take j).map fnT++[fnT e]):=Hd (by rw[Vt gH,VK,he];rfl);obtain⟨wz,gp⟩:=Ex (wy.alloc (.cells #[Iv zo,Iv zv,.slice za zn zc] 79));have hF:Hq (_=wz):=Hd gp.symm;have h5:Bw wy wz:=by rw[gp];exact Af _ _
   have g0:wz.heap[wy.heap.size]?=some (.cells #[Iv zo,Iv zv,.slice za zn zc] 79 (0,0)):=by rw[gp];exact Vq _ _
   have p0:wz.cell? (Av wy.heap.size)=some (Iv zo):=by rw[Vp _ _ 0 _ _ _ g0];rfl
   have p1:wz.cell? (Aw wy.heap.size 1)=some (Iv zv):=by rw[Vp _ _ 1 _ _ _ g0];rfl
   have p2:wz.cell? (Aw wy.heap.size 2)=some (.slice za zn zc):=by rw[Vp _ _ 2 _ _ _ g0];rfl
   obtain⟨o4,m4,V4,lt0,mn4⟩:=gw.o;have lt4:=lt0.below h5;have n4:o4 wy.heap.size=none:=lt0.sat.lt.none (Vo _);have h3:∀ g,u8.ownBlock=some g->g<wy.heap.size:=fun g hg=>(lt0.l.own.lt g hg).2
   have hN:(two++hs).length=2+j:=by simp[two,hC];omega
   have gx:=Hd (M8 hK e _ (two++hs) nx wz o4 m4 V4 _ lt4.sat ⟨lt4.st.1,mn4⟩ lt4.b2 gi.o.2.1.valid (by have:=gi.o.2.2;rw[gP.o] at this;exact this) hx (by omega) (Tu hy ga (by omega)));have g8:=Hd lt4;clear gv k0 k1 k2 hx h5 g0 gp lt4 gw he lt0;go_upto_region 9 with fail;rw[hF.o];clear q0 q1 q2;go_wp2_with fail;refine gx.o.mono ?_;rintro y w5 ⟨k,rfl,hk,o5,m5,V5,g9,⟨gY,gE⟩,gA⟩;have ho:Hq (m5.d.pool.many<=2*2^n+(j+1)*(39*2^n+1)):=Hd (Tv ga gz gE);have gn:Hq (LawT K n (OrdP q.order) (Bf n) wb mb (two++(hs++[(k,fnT e)])) (k+1) (fun ws c=>ws=[]/\True) hs hs w5 o5 m5 V5 u8 u9):=Hd (g8.o.go (by rw[<- VC];exact gA) (MC.app _) ⟨gY,trivial⟩ g9);have r0:=g9.cell (p:=Av wy.heap.size) p0 n4 (fun e=>e);have r1:=g9.cell (p:=Aw wy.heap.size 1) p1 n4 (fun e=>e);have r2:=g9.cell (p:=Aw wy.heap.size 2) p2 n4 (fun e=>e);have n5:=g9.none' (Ah p0) n4;have hh:wb.heap.size<=w5.heap.size:=gA.chg.size;clear g9 gY gA gE gx p0 p1 p2 g8;go_upto_region 13 with (at_builtin;refine BC FQ _ rfl _ _ rfl wb.heap.size _ (Aq (hs.map Prod.fst)) _ rfl rfl rfl rfl rfl (by exact gn.o.l.own) (by simp[Aq];omega) hh ?_;intro v6 w6 gt g1 g2 g3 g4 gJ)
   have gX:=Gk g1 g2 g3 g4 gJ;have ge:w6.heap[wy.heap.size]?=w5.heap[wy.heap.size]?:=gX.keep _ (Ah r0) (fun e=>by have:=h3 _ e;omega);have t0:=Co r0 ge;have t1:=Co r1 ge;have t2:=Co r2 ge;have g6:=Hd (gn.o.appL gt g1 g2 g3 g4 gJ (p:=(k,fnT e)));have a0:=Cq g6.o.below0 c0;have h7:=Hd (Tl e _ n (by omega) w6 (by omega) gi.o.2.1 (HX.o.below g6.o.below0));clear gX ge gt g1 g2 g3 g4 gJ r0 r1 r2 gn h3;go_wp2_with fail;refine h7.o.mono ?_;rintro y w7 ⟨v7,rfl,gd,h6⟩;obtain⟨av,cv,rfl,_⟩:=gd.slice;have h9:Hq (LawB w7 o5 wb.heap.size (.slice av (A8 (tabB n (fnT e))).length cv) (tabB n (fnT e))):=Hd (Rq (n:=n) gd (by rw[Ch];exact E7 (by omega)) g6.o.sat.lt g6.o.sat.chg.size);have gf:=Hd (g6.o.below h6);obtain⟨rs,hm,gC,gB⟩:=gf.o.x.ex;have gO:=Hd gC;have h8:=Hd gB;have ht:rs.length=hs.length:=by rw[hm];simp
   have hf:wb.heap.size<=w7.heap.size:=gf.o.sat.chg.size;clear gd h6 gC gB h7 g6 t0 t1 t2 a0;go_upto_region 14 with (at_builtin;refine BC Iu _ rfl _ _ rfl wb.heap.size _ rs _ rfl rfl rfl rfl rfl (by exact gO.o) (by omega) hf ?_;intro v8 w8 gr g1 g2 g3 g4 h4)
   have gS:=Hd (gf.o.appX h9.o rfl ht gO.o h8.o gr g1 g2 g3 g4 h4 (p:=(k,fnT e)));have hJ:Hq (SetI K q n wb mb (j+1) v6 v8 w8):=Hd ⟨hs++[(k,fnT e)],k+1,by rw[VK,gK.o,hH.o];rfl,by omega,o5,m5,V5,gS.o,ho.o⟩;clear gr g1 g2 g3 g4 h4 gO h8 gf h9 gS;go_wp2_with fail;go_roundw
   case rel=>exact⟨j+1,by omega,by go_num,hJ⟩
   case measure=>simp[intOf];omega
  ·have hB:j=q.es.length:=by omega
   have hA:¬ (j:Int)<q.es.length:=by omega
   obtain⟨o4,m4,V4,lt4,mn4⟩:=gw.o;have hp:=Hd mn4;clear mn4;have e3:=Cq lt4.below0 c3;have gq:m4.waits=[]:=lt4.st.1;have gu:Bo n m4.waits.length q.plan=0:=by
    rw[gq];have:=gL.o.planOk;rw[gP.o] at this;exact this
   have gQ:=Hd (Tq lt4.sat (c:=cp) (gj.o.plan.below lt4.below0) (fun h0 x hx=>by
    obtain⟨b,off,e,hc,_⟩:=gj.o.plan.cells 0 h0;rw[hx] at e;cases e;exact lt4.sat.none0 (Ah hc)) (by rw[gq];simp))
   rw[gu] at gQ;have g8:=Hd lt4;have hG:=Hd gq;clear lt4 gq gu gw;go_wp2_with fail;refine gQ.o.mono ?_;rintro y w5 ⟨rfl,o5,m5,gh⟩
   have HF:Hq (Q (.returned (.tuple #[Pt mb,u8,u9,.bool true])) w5):=Hd (by
    rw[HQ.o];refine⟨mb,u8,u9,wb,hs,nx,rfl,hb.o,by rw[gK.o,hB,VI],by omega,o5,m5,V4,g8.o.go gh.sat g8.o.b2 ?_ (ChgX.of_chg gh.chg NoB),?_⟩
    rotate_left
    . rw[gh.d];exact Tw (by omega) hp.o
    have:=gh.yes rfl;rw[hG.o] at this;exact⟨by simpa using this.1,by simpa using this.2⟩)
   clear gh gQ;go_wp2_with fail;refine VS (Ic rfl _ _ _) rfl ?_;exact HF.o
def cofF (F:BF)(v:Nat)(b:Bool):BF:=fun ρ=>F fun u=>if u=v then b else ρ u
theorem MD {u v r:Nat}(hu:u<v):bitB (2^v*x+r) u=bitB r u:=by
 obtain⟨k,rfl⟩:∃ k,v=u+(k+1):=⟨v-u-1,by omega⟩;unfold bitB;have e1:(2:Nat)^(u+(k+1))*x=2^u*(2*(2^k*x)):=by rw[Nat.pow_add,WS];ac_rfl
 rw[e1,Nat.mul_add_div (WR (by omega)),Nat.mul_add_mod]
theorem ME {v q r:Nat}(hr:r<2^v)(hc:c<2):bitB (2^v*(2*q+c)+r) v=decide (c=1):=by
 unfold bitB;rw[Nat.mul_add_div (WR (by omega)),XS hr,Xj,Nat.mul_add_mod,Nat.mod_eq_of_lt hc]
theorem MF {u v q r:Nat}(hr:r<2^v)(hc:c<2)(hu:v<u):bitB (2^v*(2*q+c)+r) u=decide (q/2^(u-v-1)%2=1):=by
 obtain⟨k,rfl⟩:∃ k,u=v+(k+1):=⟨u-v-1,by omega⟩;unfold bitB;have e1:(2:Nat)^(v+(k+1))=2^v*(2*2^k):=by rw[Nat.pow_add,WS];ac_rfl
 have e2:v+(k+1)-v-1=k:=by omega
 rw[e1,e2,<- Xt,Nat.mul_add_div (WR (by omega)),XS hr,Xj,<- Xt];have e3:(2*q+c)/2=q:=by omega
 rw[e3]
def cofI (j v:Nat)(b:Bool):Nat:=if bitB j v && !b then j-2^v else if !bitB j v&&b then j+2^v else j
theorem Tz (j v:Nat):∃ q c r,r<2^v/\c<2/\j=2^v*(2*q+c)+r:=by
 have h:=Nat.div_add_mod j (2^v);refine⟨j/2^v/2,j/2^v%2,j%2^v,Nat.mod_lt _ (WR (by omega)),by omega,?_⟩;have e:2*(j/2^v/2)+j/2^v%2=j/2^v:=by omega
 rw[e];exact h.symm
theorem MG (j v:Nat)(b:Bool):∀ u,bitB (cofI j v b) u=if u=v then b else bitB j u:=by
 obtain⟨q,c,r,hr,hc,rfl⟩:=Tz j v;have g1:=ME (q:=q) hr hc;have key:∃ c':Nat,c'<2/\decide (c'=1)=b/\cofI (2^v*(2*q+c)+r) v b=2^v*(2*q+c')+r:=by
  unfold cofI;rw[g1];have h2:2^v*(2*q+1)=2^v*(2*q+0)+2^v:=by simp[Nat.mul_add]
  rcases(by omega:c=0\/c=1) with rfl|rfl
  ·cases b with
   | false=>exact⟨0,by omega,rfl,by simp⟩
   | true=>exact⟨1,by omega,rfl,by simp only[Nat.zero_ne_one,decide_false,Bool.not_true,Bool.and_self,Bool.not_false,Xy,if_false,Ws];omega⟩
  ·cases b with
   | true=>exact⟨1,by omega,rfl,by simp⟩
   | false=>exact⟨0,by omega,rfl,by simp only[decide_true,Bool.not_false,Bool.and_self,Ws];omega⟩
 obtain⟨c',g0,hb,e⟩:=key;intro u;rw[e];rcases X3 u v with h|rfl|h
 . rw[Vn (by omega),MD h,MD h]
 . rw[Vs rfl,ME hr g0,hb]
 . rw[Vn (by omega),MF hr g0 h,MF hr hc h]
abbrev XX:=@decide_eq_false_iff_not
theorem T0 (h:∀ u,n<=u->bitB i u=false):i<2^n:=by
 rcases VB i (2^n) with h'|h'
 . exact h'
 ·exfalso;have hz:∀ k,i/2^n≠0->(∀ u,n<=u->bitB i u=false)->i/2^n<2^k->False:=by
   intro k
   induction k with
   | zero=>intro h1 _ h2;simp at h2;omega
   | succ k ih =>
     intro h1 h2 h3;refine ih h1 h2 ?_;have hb:=h2 (n+k) (by omega);unfold bitB at hb;rw[XX] at hb;have e:i/2^(n+k)=i/2^n/2^k:=by rw[Nat.pow_add,Xt]
     rw[e] at hb;have h4:i/2^n/2^k<2:=by
      rw[Nat.div_lt_iff_lt_mul (WR (by omega))];rw[WS,Nat.mul_comm] at h3;exact h3
     have h5:i/2^n/2^k=0:=by
      generalize i/2^n/2^k=X at hb h4
      omega
     exact(Nat.div_eq_zero_iff_lt (WR (by omega))).1 h5
  have h0:i/2^n≠0:=by
   intro e;have:=(Nat.div_eq_zero_iff_lt (WR (by omega))).1 e;omega
  exact hz (i/2^n) h0 h (Nat.lt_two_pow_self)
theorem MH {v:Nat}{b:Bool}(hj:j<2^n)(hv:v<n):cofI j v b<2^n:=by
 refine T0 fun u hu=>?_
 rw[MG,Vn (by omega)];unfold bitB;rw[XX,XS (VH hj (Wo (by omega) hu))];omega
theorem T1 {v:Nat}{b:Bool}(hj:j<2^n)(hv:v<n):(tabB n F).getD (cofI j v b) false=cofF F v b (AF (AO j n)):=by
 rw[EX (MH hj hv)];unfold cofF;congr 1;funext u;rw[I9,MG,I9]
 by_cases e:u=v
 . subst e;simp[hv]
 . rw[Vn e,Vn e]
def AU (n:Nat)(F:BF)(v:Nat):Bool := !decide (tabB n (cofF F v false)=tabB n (cofF F v true))
def topR (n:Nat)(F:BF):List Nat->Int
 | []=>-1
 | v::l=>if AU n F v then (v:Nat) else topR n F l
theorem Jf {n:Nat}{F:BF}:∀ {l:List Nat},(∀ v∈l,AU n F v=false)->topR n F l = -1
 | [],_=>rfl
 | v::l,h=>by
   show (if AU n F v then ((v:Nat):Int) else topR n F l) = -1
   rw[h v (VW ..)];exact Jf fun u hu=>h u (WP _ hu)
theorem Jg {n:Nat}{F:BF}:∀ (l:List Nat) (k:Nat),k<l.length->AU n F (l.getD k 0)=true->(∀ j,j<k->AU n F (l.getD j 0)=false)->topR n F l=(l.getD k 0:Nat)
 | [],k,hk,_,_=>by simp at hk
 | v::l,0,_,h,_=>by
   show (if AU n F v then ((v:Nat):Int) else topR n F l)=(v:Nat)
   have h':AU n F v=true:=h;rw[h',Vs rfl]
 | v::l,k+1,hk,h,hj=>by
   show (if AU n F v then ((v:Nat):Int) else topR n F l)=_
   have h0:AU n F v=false:=hj 0 (by omega);rw[h0];have:=Jg l k (by simpa using hk) (by simpa using h) (fun j hjk=>by simpa using hj (j+1) (by omega));simpa using this
section
theorem Ak.dep (h:Ak d V)(hf:okE (Aa d) f):DepF d.vars.length (ef V f):=fun ρ ρ' hr=>h.dag.indep _ f (Vo _) hf ρ ρ' fun v hv _=>hr v hv
theorem Fo (h:DepF n F)(v:Nat)(b:Bool):DepF n (cofF F v b):=fun ρ ρ' hr=>h _ _ fun u hu=>by
 show (if u=v then b else ρ u)=if u=v then b else ρ' u
 rw[hr u hu]
theorem Fp (F:BF)(v:Nat)(b:Bool)(ρ:Nat->Bool):cofF F v b ρ=F (upd ρ v b):=rfl
theorem DZ (h:DepF n F)(v:Nat):AU n F v=true↔cofF F v false≠cofF F v true:=by
 unfold AU;rw[Bool.not_eq_true',XX];exact⟨fun h1 e=>h1 (by rw[e]),fun h1 e=>h1 (Mr (Fo h v _) (Fo h v _) e)⟩
theorem T2 (h:Ak d V){v:Nat}(hf:okE (Aa d) f)(hl:levN d v<lvE d.vars.length (levN d) (Aa d) f):AU d.vars.length (ef V f) v=false:=by
 rw[<- Bool.not_eq_true,DZ (h.dep hf)];intro g0;refine g0 ?_;funext ρ;rw[Fp,Fp,h.dag.indep_var hf hl,h.dag.indep_var hf hl]
theorem MI (V:Nat->BF)(f:Nat)(ρ:Nat->Bool):ef V f ρ=(if f%2=0 then V (f/2) ρ else !V (f/2) ρ):=by
 unfold ef;split<;>simp_all
theorem MJ (h:Ak d V)(hb:Aa d (f/2)=some b):topR d.vars.length (ef V f) d.vars=(b.v:Nat)/\b.v<d.vars.length:=by
 have hf:okE (Aa d) f:=.inr ⟨b,hb⟩;have g1:=h.dag.var _ _ hb;have g2:=h.dag.lt _ g1;have g3:lvE d.vars.length (levN d) (Aa d) f=levN d b.v:=by unfold lvE;rw[hb]
 refine⟨?_,g1⟩;have g0:=h.inv b.v g1;rw[Jg d.vars (levN d b.v) g2 ?_ ?_,g0]
 ·rw[g0,DZ (h.dep hf)];intro he;have hc:ef V b.hi=ef V b.lo:=by
   funext ρ;have h1:=h.dag.cofs hb ρ;have h2:ef V f (upd ρ b.v false)=ef V f (upd ρ b.v true):=congrFun he ρ;rw[MI,MI,h1.1,h1.2] at h2;split at h2
   . exact h2.symm
   . have:=Wb not h2;simpa using this.symm
  have:=h.dag.canon (h.dag.okHi _ _ hb) (h.dag.okLo _ _ hb) hc;exact h.dag.ne _ _ hb this.symm
 . intro j hj;have h1:=h.vlt j (by omega);exact T2 h hf (by rw[g3,h1.2];exact hj)
end
theorem Gz (p:Prop):∃ b:Bool,b=true↔p:=by
 classical
 exact⟨decide p,by simp⟩
theorem SatE.dep {K:Law}{n:Nat}{Od:List Nat->Prop}{room:Nat}{w0 w:Wd}{mb:Nat}{fs:List (Int×BF)}{nx:Int}{o:Own}{m:ManD}{V:Nat->BF}(h:SatE K n Od room w0 mb fs nx w o m V){k:Int}{F:BF}(hk:(k,F)∈fs):DepF n F:=by
 obtain⟨f,hf,rfl⟩:=h.find hk;have:=h.ok.store.dep (h.ok.handles.ok _ hf)
 rwa [h.vars] at this
theorem T3 (V:Nat->BF)(e:Nat):ef V (enot e)=notF (ef V e):=funext fun ρ=>DF V e ρ
section
theorem Jh {o:Own}(h:Ba (K m.d V) o w mb m)(he:okE (Aa m.d) e):e<eMax:=by
 obtain⟨s,hs⟩:=h;obtain⟨s2,h2⟩:=hs.store;have:=h2.edge_lt he;unfold eMax;omega
end
def T4 (e0:Nat):BF:=fun _=>decide (e0=0)
theorem T5 (hk:Ak d V){e0:Nat}(h:e0/2=0):ef V e0=T4 e0:=by
 rcases(show e0=0\/e0=1 by omega) with rfl|rfl
 . rw[hk.dag.ef0];rfl
 . rw[hk.dag.ef1];rfl
def AR (B:Wd->Own->Prop):Prop:=∀ W o W' o',B W o->ChgX NoB o o' W W'->B W' o'
theorem NoB.sub {s:Nat}:∀ k,k<s->NoB k->C k:=fun _ _ e=>e.elim
theorem T6 (w:Wd)(g:Fn)(fs cs:Array Value):(binOp .eql 200 (.func g fs cs) .nilFunc).run prog w=.ok (.bool false) w:=by
 have hd:Op.maxDepth=9999+1:=rfl;have h:(Op.equal 200 (.func g fs cs) .nilFunc).run prog w=.ok false w:=by
  unfold Op.equal;rw[hd];unfold Op.equalIn;simp only[WG,VP underlying200,VZ];simp
 simp only[binOp];simp[h]
section
variable {B:Wd->Prop}{St:ManD->Prop}{gop:Nat}{QO:Nat->Own->Wd->ManD->(Nat->BF)->Prop}{QP:Own->Wd->ManD->(Nat->BF)->Prop}{Q:Wd->ManD->(Nat->BF)->Prop}{E:Int->ManD->ManD->Prop}
def OpLN (K:Law)(n:Nat)(Od:List Nat->Prop)(room:Nat)(w0:Wd)(mb:Nat)(fs:List (Int×BF))(nx:Int)(C:Nat->Prop)(B:Wd->Prop)(St:ManD->Prop)(gop:Nat)(lop:Array Value)(Q:Nat->Own->Wd->ManD->(Nat->BF)->Prop)(E:Int->ManD->ManD->Prop):Prop :=
 ∀ (o:Own) (W:Wd) (m:ManD) (V:Nat->BF) (xb:Nat),SatE K n Od room w0 mb fs nx W o m V->B W->(∀ k,C k->k<W.heap.size/\o k=none)->St m->BO o W xb mb->¬ C xb ->
  Calls prog gop (#[Pt xb]++lop) W fun e w'=>∃ (o':Own) (m':ManD) (V':Nat->BF),CM C K o W mb m V o' w' m' V'/\B w' /\
   ((e=.returned (.tuple #[])/\Q W.heap.size o' w' m' V') \/
    (∃ er:Int,e=AV er false ev0/\er≠0/\m'.waits=m.waits/\St m'/\E er m m') \/
    (∃ ev,e=AV 0 true ev/\m.waits=ev::m'.waits/\StE K n Od room w0 mb fs nx St m'/\HapG K n Od room w0 mb fs nx ev))
def CX (W:Wd)(b:Nat):Prop:=∀ k d,W.cell? (Aw b k)≠some (.int .u32 d)
structure E8 (K:Law)(n:Nat)(Od:List Nat->Prop)(room:Nat)(w0:Wd)(mb:Nat)(fs:List (Int×BF))(nx:Int)(C:Nat->Prop)(B:Wd->Prop)(St:ManD->Prop)(o0:Own)(w:Wd)(k:Nat)(full:Bool)(W:Wd)(o:Own)(m:ManD)(V:Nat->BF):Prop where
 sat:SatE K n Od room w0 mb fs nx W o m V
 bok:B W
 st:St m
 len:m.waits.length=k
 cok:∀ c,C c->c<w.heap.size/\o c=none
 chg:ChgX C o0 o w W
 clean:full=true->m.d.dead=0
def MK (K:Law)(n:Nat)(Od:List Nat->Prop)(room:Nat)(w0:Wd)(mb:Nat)(fs:List (Int×BF))(nx:Int)(C:Nat->Prop)(B:Wd->Prop)(Q:Own->Wd->ManD->(Nat->BF)->Prop)(E:Int->ManD->ManD->Prop)(o0:Own)(w:Wd)(er:Int)(W:Wd):Prop :=
 ∃ o m V,SatE K n Od room w0 mb fs nx W o m V/\B W/\ChgX C o0 o w W/\((er=0/\Q o W m V)\/(er≠0/\∃ m0:ManD,E er m0 m/\(er=7->m0.d.dead=0)))
theorem T7 (hB:∀ W W',B W->(∀ c,C c->W'.heap[c]?=W.heap[c]?)->B W')(hQ:∀ s o W W' m V,(∀ c,C c->c<s)->s+3<=W.heap.size->CX W s/\CX W (s+1)->QO (s+3) o W m V->Ali s W W'->QP o W' m V)(hSt:∀ (m:ManD) (d:Ae),St m->AJ m.d d->St { m with d:=d })(hC0:∀ c,C c->w0.heap.size<=c)(eg:∀ args w,(callFunc gop args).run prog w=.ok (.enter gop args) w)
 (hop:OpLN K n Od room w0 mb fs nx C B St gop lop QO E) {o:Own} {w:Wd} {m:ManD} {V:Nat->BF} (h:SatE K n Od room w0 mb fs nx w o m V) (hb:B w) (hC:∀ c,C c->c<w.heap.size/\o c=none) (hst:St m) :
 Cl 196 #[Pt mb,.func (.func gop) #[] lop] w fun x w'=>∃ er,x=.returned (Iv er)/\MK K n Od room w0 mb fs nx C B QP E o w er w':=by
 have hw0:=h.chg.size;have g7:∀ {k full W W' o1 m1 V1},E8 K n Od room w0 mb fs nx C B St o w k full W o1 m1 V1->∀ {s:Nat},w.heap.size<=s->o1 s=none->o1 (s+1)=none->Ali s W W'->E8 K n Od room w0 mb fs nx C B St o w k full W' o1 m1 V1:=by
  intro k full W W' o1 m1 V1 hi s hs n0 n1 a;have hk:∀ k,k<w.heap.size->W'.heap[k]?=W.heap[k]?:=fun k hk=>a.keep k (by have:=hi.chg.size;omega) (by omega)
  refine⟨hi.sat.other a (fun k _ e=>?_),hB _ _ hi.bok (fun c hc=>hk c (hi.cok c hc).1),hi.st,hi.len,hi.cok,hi.chg.trans (ChgX.of_wr (C:=fun k=>w.heap.size<=k) a o1 (fun k _ e=>by omega)) (fun k hk e=>by omega),hi.clean⟩;rcases e with rfl|rfl
  . exact⟨by omega,n0⟩
  . exact⟨by omega,n1⟩
 have gd:∀ {k full full' W W' o1 m1 V1 o2 m2 V2},E8 K n Od room w0 mb fs nx C B St o w k full W o1 m1 V1->SatE K n Od room w0 mb fs nx W' o2 m2 V2->ChgX NoB o1 o2 W W'->m2.waits=m1.waits->St m2->(full'=true->m2.d.dead=0)->E8 K n Od room w0 mb fs nx C B St o w k full' W' o2 m2 V2:=by
  intro k full full' W W' o1 m1 V1 o2 m2 V2 hi gn hc e1 e2 e3;have gp:=hi.chg.size;exact⟨gn,hB _ _ hi.bok (fun c g8=>hc.block c (by have:=(hi.cok c g8).1;omega) (hi.cok c g8).2 (fun e=>e)),e2,by rw[e1];exact hi.len,fun c g8=>⟨(hi.cok c g8).1,hc.none' (by have:=(hi.cok c g8).1;omega) (hi.cok c g8).2⟩,hi.chg.trans hc (fun _ _ e=>e.elim),e3⟩
 refine K5 mb _ _ _ eg (fun k full W=>∃ o1 m1 V1,E8 K n Od room w0 mb fs nx C B St o w k full W o1 m1 V1) _ ?_ m.waits.length ⟨o,m,V,h,hb,hst,rfl,hC,ChgX.of_below (VA _ _) o C,by simp⟩;rintro k full W ⟨o1,m1,V1,hi⟩;have gp:=hi.chg.size;obtain⟨s,hs⟩:=Ex W.heap.size
 refine⟨fun st W1=>match st with
  | none=>∃ (o':Own) (m':ManD) (V':Nat->BF),SatE K n Od room w0 mb fs nx W1 o' m' V'/\B W1/\ChgX C o o' w W1/\s+3<=W1.heap.size/\(∀ q,w.heap.size<=q->q<s+3->o1 q=none->o' q=none)/\(CX W1 s/\CX W1 (s+1))/\QO (s+3) o' W1 m' V'
  | some (er,evt,ev)=>∃ (o':Own) (m':ManD) (V':Nat->BF),E8 K n Od room w0 mb fs nx C B St o w m'.waits.length false W1 o' m' V'/\s+3<=W1.heap.size/\(∀ q,w.heap.size<=q->q<s+3->o1 q=none->o' q=none) /\
   ((evt=false/\er≠0/\m'.waits=m1.waits/\E er m1 m')\/(evt=true/\m1.waits=ev::m'.waits/\StE K n Od room w0 mb fs nx St m'/\HapG K n Od room w0 mb fs nx ev)),?_,?_,?_,?_,?_⟩
 ·unfold ER;have ge:Bw W (tryW mb W):=((Af _ _).alloc (by simp) _).alloc (by simp;omega) _;have gi:(tryW mb W).heap.size=W.heap.size+3:=by unfold tryW;simp
  obtain⟨T,hT⟩:=Ex (tryW mb W);have h1:(tryW mb W).heap[W.heap.size+2]?=some (.cells #[Pt mb] 233 (0,0)):=by
   have:=Vq ((W.alloc (.cells #[Iv 0,.bool false,Iv 0,Iv 0,Iv 0] 235)).alloc (.cells #[.bool false] 4)) (.cells #[Pt mb] 233);rw[VO,VO] at this;exact this
  have gk:CX (tryW mb W) W.heap.size:=fun k d hd=>by
   have e:(tryW mb W).heap[W.heap.size]?=some (.cells #[Iv 0,.bool false,Iv 0,Iv 0,Iv 0] 235 (0,0)) :=
    (VL _ _ (by simp;omega)).trans ((VL _ _ (by simp)).trans (Vq _ _))
   rw[Vp _ _ _ _ _ _ e] at hd;rcases(show k=0\/k=1\/k=2\/k=3\/k=4\/5<=k by omega) with rfl|rfl|rfl|rfl|rfl|hk
   . simp at hd
   . simp at hd
   . simp at hd
   . simp at hd
   . simp at hd
   . rw[XY (by simpa using hk)] at hd;cases hd
  have gj:CX (tryW mb W) (W.heap.size+1):=fun k d hd=>by
   have e0:=Vq (W.alloc (.cells #[Iv 0,.bool false,Iv 0,Iv 0,Iv 0] 235)) (.cells #[.bool false] 4);rw[VO] at e0;have e:(tryW mb W).heap[W.heap.size+1]?=some (.cells #[.bool false] 4 (0,0)) :=
    (VL _ _ (by simp)).trans e0
   rw[Vp _ _ _ _ _ _ e] at hd;rcases(show k=0\/1<=k by omega) with rfl|hk
   . simp at hd
   . rw[XY (by simpa using hk)] at hd;cases hd
  rw[<- hT] at ge gi h1 gk gj ⊢;clear hT;have g6:=hi.sat.below ge;have gt:BO o1 T (W.heap.size+2) mb:=⟨cell1 h1,hi.sat.lt.none (by omega)⟩;have gm:∀ q,w.heap.size<=q->¬ C q:=fun q hq e=>by have:=(hi.cok q e).1;omega
  have ga:∀ {o':Own} {w1:Wd},ChgX C o1 o' T w1->∀ q,w.heap.size<=q->q<s+3->o1 q=none->w1.heap[q]?=T.heap[q]?:=fun hc q h1 h2 h3=>hc.block q (by omega) h3 (gm q h1)
  have n0:o1 W.heap.size=none:=hi.sat.lt.none (Vo _);have n1:o1 (W.heap.size+1)=none:=hi.sat.lt.none (by omega);refine(hop o1 T m1 V1 (W.heap.size+2) g6 (hB _ _ hi.bok (fun c hc=>ge.block c (by have:=(hi.cok c hc).1;omega))) (fun c hc=>⟨by have:=(hi.cok c hc).1;omega,(hi.cok c hc).2⟩) hi.st gt (gm _ (by omega))).mono ?_;rintro e w1 ⟨o',m',V',st,b1,gh⟩;have gw:=st.chg.size;have gg:=(hi.chg.trans (ChgX.of_below ge o1 C) (fun _ _ e=>e)).trans st.chg (fun _ _ e=>e);refine⟨by omega,ga st.chg _ (by omega) (by omega) n0,ga st.chg _ (by omega) (by omega) n1,?_⟩;have g9:∀ q,w.heap.size<=q->q<s+3->o1 q=none->o' q=none:=fun q _ h2 h3=>st.chg.none' (by omega) h3
  have gf:∀ c,C c->c<w.heap.size/\o' c=none:=fun c hc=>⟨(hi.cok c hc).1,st.chg.none' (by have:=(hi.cok c hc).1;omega) (hi.cok c hc).2⟩
  rcases gh with ⟨rfl,q1⟩|⟨er,rfl,q1,q2,q3,q4⟩|⟨ev,rfl,q1,q2,q3⟩
  ·have hu:∀ {q:Nat},q<s+3->w.heap.size<=q->o1 q=none->CX T q->CX w1 q:=fun h2 h1 h3 hn k d hd=>hn k d (by
    have e:=ga st.chg _ h1 h2 h3;exact(Wm (w:=T) (a:=Aw _ k) e).symm.trans hd)
   exact .inl ⟨rfl,o',m',V',g6.step st hC0,b1,gg,by omega,g9,⟨by rw[hs];exact hu (by omega) (by omega) n0 gk,by rw[hs];exact hu (by omega) (by omega) n1 gj⟩,by rw[hs,<- gi];exact q1⟩
  . exact .inr ⟨er,false,ev0,rfl,o',m',V',⟨g6.step st hC0,b1,q3,rfl,gf,gg,by simp⟩,by omega,g9,.inl ⟨rfl,q1,q2,q4⟩⟩
  . exact .inr ⟨0,true,ev,rfl,o',m',V',⟨g6.step st hC0,b1,q2 _ _ _ _ (g6.step st hC0) rfl rfl (.inl (Vo _)),rfl,gf,gg,by simp⟩,by omega,g9,.inr ⟨rfl,q1,q2,q3⟩⟩
 ·rintro W1 W2 ⟨o',m',V',a1,a2,a3,a4,a5,au,a8⟩ al;rw[<- hs] at al;have n0:o' s=none:=a5 s (by omega) (by omega) (by rw[hs];exact hi.sat.lt.none (Vo _));have n1:o' (s+1)=none:=a5 (s+1) (by omega) (by omega) (by rw[hs];exact hi.sat.lt.none (by omega));have hk:∀ c,C c->W2.heap[c]?=W1.heap[c]?:=fun c hc=>al.keep c (by have:=(hi.cok c hc).1;omega) (by have:=(hi.cok c hc).1;omega)
  refine⟨o',m',V',a1.other al (fun k _ e=>?_),hB _ _ a2 hk,a3.trans (ChgX.of_wr (C:=fun k=>w.heap.size<=k) al o' (fun k _ e=>by omega)) (fun k hk e=>by omega),.inl ⟨rfl,hQ s _ _ _ _ _ (fun c hc=>by have:=(hi.cok c hc).1;omega) a4 au a8 al⟩⟩;rcases e with rfl|rfl
  . exact⟨by omega,n0⟩
  . exact⟨by omega,n1⟩
 ·rintro er ev W1 W2 ⟨o',m',V',gc,a4,a5,(⟨h1,_⟩|⟨_,gr,go,gu⟩)⟩ al
  . cases h1
  rw[<- hs] at al;have n0:o' s=none:=a5 s (by omega) (by omega) (by rw[hs];exact hi.sat.lt.none (Vo _));have n1:o' (s+1)=none:=a5 (s+1) (by omega) (by omega) (by rw[hs];exact hi.sat.lt.none (by omega));have g0:=g7 gc (by omega) n0 n1 al;refine(gu o' W2 m' V' g0.sat).mono ?_;rintro x w' ⟨rfl,o2,m2,V2,g1,g2,g3,g5,g4⟩;exact⟨rfl,m'.waits.length,by rw[<- hi.len,gr];simp,o2,m2,V2,gd g0 g1 g4 g2 (go _ _ _ _ g1 g2 g3 g5) (by simp)⟩
 ·rintro ev W1 W2 ⟨o',m',V',gc,a4,a5,(⟨_,_,hw,_⟩|⟨h1,_⟩)⟩ al gv
  . rw[<- hs] at al;have n0:o' s=none:=a5 s (by omega) (by omega) (by rw[hs];exact hi.sat.lt.none (Vo _));have n1:o' (s+1)=none:=a5 (s+1) (by omega) (by omega) (by rw[hs];exact hi.sat.lt.none (by omega));have g0:=g7 gc (by omega) n0 n1 al;refine(Lt g0.sat).mono ?_;rintro x w' ⟨rfl,o2,d2,g1,g2,g3⟩;have gl:=gd (full':=true) g0 g1 (ChgX.of_chg g3 NoB) rfl (hSt _ _ g0.st g2) (fun _=>g2.dead);rw[hw,hi.len] at gl;exact⟨⟨_,rfl⟩,o2,_,V',gl⟩
  . cases h1
 ·rintro er ev W1 W2 ⟨o',m',V',gc,a4,a5,(⟨_,h0,hw,hE⟩|⟨h1,_⟩)⟩ al gq
  ·rw[<- hs] at al;have n0:o' s=none:=a5 s (by omega) (by omega) (by rw[hs];exact hi.sat.lt.none (Vo _));have n1:o' (s+1)=none:=a5 (s+1) (by omega) (by omega) (by rw[hs];exact hi.sat.lt.none (by omega));have g0:=g7 gc (by omega) n0 n1 al;refine⟨o',m',V',g0.sat,g0.bok,g0.chg,.inr ⟨h0,m1,hE,fun e7=>hi.clean ?_⟩⟩;cases full with
   | true=>rfl
   | false=>exact(gq ⟨e7,rfl⟩).elim
  . cases h1
theorem T8 (hB:∀ W W',B W->(∀ c,C c->W'.heap[c]?=W.heap[c]?)->B W')(hQ:∀ s o W W' m V,(∀ c,C c->c<s)->s+3<=W.heap.size->CX W s/\CX W (s+1)->QO (s+3) o W m V->Ali s W W'->QP o W' m V)(hSt:∀ (m:ManD) (d:Ae),St m->AJ m.d d->St { m with d:=d })(hC0:∀ c,C c->w0.heap.size<=c)(eg:∀ args w,(callFunc gop args).run prog w=.ok (.enter gop args) w)
 (hop:OpLN K n Od room w0 mb fs nx C B St gop lop QO E) {o:Own} {w:Wd} {m:ManD} {V:Nat->BF} (h:SatE K n Od room w0 mb fs nx w o m V) (hb:B w) (hC:∀ c,C c->c<w.heap.size/\o c=none) (hst:St m) :
 Cl 164 #[Pt mb,.func (.func gop) #[] lop] w fun x w'=>∃ er,x=.returned (Iv er)/\MK K n Od room w0 mb fs nx C B QP E o w er w':=by
 have g0:=Hd (T7 hB hQ hSt hC0 eg hop h hb hC hst);have g1:=T6 w (.func gop) #[] lop;clear h hb hB hQ hSt hC0 hop hC hst
 go_enter func164,ntmps164
 go_wp2_with fail;refine g0.o.mono ?_;rintro x w1 ⟨er,rfl,hf⟩;have HF:=Hd hf;clear hf g0;go_wp2_with fail;go_ret;exact⟨er,rfl,HF.o⟩
end
theorem DepF.not (h:DepF n F):DepF n (notF F):=fun ρ ρ' hr=>by
 show (!F ρ)=(!F ρ')
 rw[h ρ ρ' hr]
section
variable {x y:Value}
structure CY (n:Nat)(w:Wd)(a:Option Addr)(Fs:List BF):Prop where
 len:Fs.length<=1000
 cells:∀ i (h:i<Fs.length),∃ b off v,a=some (Aw b off)/\w.cell? (Aw b (off+i))=some v/\TabA n w v Fs[i]
theorem CY.below {a:Option Addr}{Fs:List BF}{w':Wd}(h:CY n w a Fs)(hb:Bw w w'):CY n w' a Fs :=
 ⟨h.len,fun i hi=>by
  obtain⟨b,off,v,rfl,h1,h2⟩:=h.cells i hi;exact⟨b,off,v,rfl,(Cq hb h1),h2.below hb⟩⟩
end
theorem LawR.tabs {P:Nat->Prop}(h:LawR P n fs w vl vx hs):∃ a c,vx=.slice a hs.length c/\CY n w a (hs.map Prod.snd):=by
 obtain⟨a,c,e,h1⟩:=h.x;refine⟨a,c,e,by simpa using h.small,fun i hi=>?_⟩;have g0:i<hs.length:=by simpa using hi
 obtain⟨b,off,v,h2,h3,h4,_⟩:=h1.cells i (by simpa using hi);refine⟨b,off,v,h2,h3,?_⟩;rw[show (hs.map fun p=>tabB n p.2).getD i []=tabB n hs[i].2 by simp[List.getD,g0]] at h4;have:=TabA.is h4;simpa using this
section
variable {L:Nat}{bs r:List (Int×BF)}{o:Own}{B:Nat->Wd->Own->Prop}{Φ:BF->BF}{er:Nat->Int}{c:Int}
theorem AR.and {A B:Wd->Own->Prop}(hA:AR A)(hB:AR B):AR fun W o=>A W o/\B W o:=fun _ _ _ _ h hc=>⟨hA _ _ _ _ h.1 hc,hB _ _ _ _ h.2 hc⟩
end
def FxO (K:Law)(n room:Nat)(w0:Wd)(mb:Nat)(ws0:List Ev)(C:Nat->Prop)(o0:Own)(wb:Wd)(B:Wd->Own->Prop)(P:List Nat->Prop)(fs:List (Int×BF))(nx:Int)(W:Wd):Prop :=
 ∃ o m V,ChgX C o0 o wb W/\m.waits <:+ ws0/\SatE K n P room w0 mb fs nx W o m V/\B W o
def AM (v:Value)(zs:List Int):Wd->Own->Prop:=fun W o=>SliceIs W v zs/\(∀ k,v.ownBlock=some k->k<W.heap.size/\o k=none)
theorem AM.keep :AR (AM v zs):=fun W o W' o' h hc =>
 ⟨h.1.same fun k hk=>hc.block k (h.2 k hk).1 (h.2 k hk).2 (fun e=>e),fun k hk=>⟨VH (h.2 k hk).1 hc.size,hc.none' (h.2 k hk).1 (h.2 k hk).2⟩⟩
theorem AM.slice {o:Own}(h:AM v zs W o):SliceIs W v zs:=h.1
theorem ML (f:Int->Int):∀ zs:List Int,invs f zs<=zs.length*zs.length
 | []=>by simp[invs]
 | x::xs=>by
   have h1:=ML f xs;have h2:=List.countP_le_length (p:=fun y=>decide (f x>f y)) (l:=xs);simp only[invs,VG];have:(xs.length+1)*(xs.length+1)=xs.length*xs.length+2*xs.length+1:=by rw[WY,Nat.mul_add];omega
   omega
theorem T9 {l:List Nat}(h:k+1<l.length):(exL l k).map Int.ofNat=AZ (l.map Int.ofNat) (k:Int):=by
 have hl:((exL l k).map Int.ofNat).length=(AZ (l.map Int.ofNat) (k:Int)).length:=by rw[EB,Vw,Vw,Mt]
 refine CH hl fun j hj=>?_
 have g0:j<(exL l k).length:=by simpa using hj
 have g1:j<l.length:=by rw[Mt] at g0;exact g0
 rw[CE g0,EW (by rw[Vw];exact h)];split
 ·rename_i e
  subst e;rw[Mu h,CE h]
 ·split
  ·rename_i e
   subst e;rw[SU h,CE (by omega)]
  ·rename_i h1 h2
   rw[Mv h1 h2,CE g1]
theorem MM (h:Fm zs n):Ay zs=true:=by
 have hl:=h.len;rw[BI];refine⟨fun k hk=>?_,fun i hi k hk e=>?_⟩
 . obtain⟨v,hv,e⟩:=h.lt k (by omega);rw[e];omega
 . have:=h.inj k i (by omega) (by omega) e;omega
theorem Vl (h:Ay zs=true)(hl:zs.length=n):Fm zs n:=by
 have h1:=(BI zs).1 h;refine⟨hl,fun i hi=>?_,fun i j hi hj e=>DS h (by omega) (by omega) e⟩;obtain⟨q1,q2⟩:=h1.1 i (by omega);exact⟨(at0 zs i).toNat,by omega,by omega⟩
theorem TA :Bq zs n=decide (zs.length=n/\Ay zs=true):=by
 rw[XF,XE];constructor
 . intro h;have:=Gv h;exact⟨this.len,MM this⟩
 ·rintro⟨h1,h2⟩;refine Ja h1 (fun v hv=>?_) fun i j hi hj e=>DS h2 (by omega) (by omega) e
  obtain⟨k,hk,e⟩:=CT h2 (x:=v) (by omega);exact⟨k,by omega,e⟩
section
variable {r:List (Int×BF)}{P:List Nat->Prop}
theorem FxO.below (hB:AR B)(h:FxO K n room w0 mb ws0 C o0 wb B P fs nx W)(hb:Bw W w'):FxO K n room w0 mb ws0 C o0 wb B P fs nx w':=by
 obtain⟨o,m,V,h1,h2,h3,h4⟩:=h;exact⟨o,m,V,h1.trans (ChgX.of_below hb o NoB) NoB.sub,h2,h3.below hb,hB _ _ _ _ h4 (ChgX.of_below hb o NoB)⟩
theorem FxO.withB {B':Wd->Own->Prop}(h:FxO K n room w0 mb ws0 C o0 wb B P fs nx W)(hB:∀ o m V,SatE K n P room w0 mb fs nx W o m V->B W o->B' W o):FxO K n room w0 mb ws0 C o0 wb B' P fs nx W:=by
 obtain⟨o,m,V,h1,h2,h3,h4⟩:=h;exact⟨o,m,V,h1,h2,h3,hB _ _ _ h3 h4⟩
theorem FxO.imp (h:FxO K n room w0 mb ws0 C o0 wb B P fs nx W)(hP:∀ l,l.length=n->P l->P' l):FxO K n room w0 mb ws0 C o0 wb B P' fs nx W:=by
 obtain⟨o,m,V,h1,h2,h3,h4⟩:=h;exact⟨o,m,V,h1,h2,h3.withOd (hP _ h3.vars h3.od),h4⟩
theorem FxO.ask {R:Ending->Wd->Prop}(h:FxO K n room w0 mb ws0 C o0 wb B P fs nx W)(hc:∀ o m V,SatE K n P room w0 mb fs nx W o m V->B W o->Calls prog f args W R):Calls prog f args W R:=by
 obtain⟨o,m,V,_,_,h3,h4⟩:=h;exact hc o m V h3 h4
theorem FxO.below0 (h:FxO K n room w0 mb ws0 C o0 wb B P fs nx W):Bw w0 W:=by
 obtain⟨o,m,V,_,_,h3,_⟩:=h;exact h3.chg.below0
theorem FxO.know (h:FxO K n room w0 mb ws0 C o0 wb B P fs nx W){Q:Wd->Prop}(hq:∀ W o,B W o->Q W):Q W:=by
 obtain⟨o,m,V,_,_,h3,h4⟩:=h;exact hq _ _ h4
theorem FxO.mine (hB:AR B)(h:FxO K n room w0 mb ws0 C o0 wb B P fs nx W)(hb:Bw W w')(hv:SliceIs w' v zs)(hk:∀ k,v.ownBlock=some k->W.heap.size<=k/\k<w'.heap.size):FxO K n room w0 mb ws0 C o0 wb (fun W o=>B W o/\AM v zs W o) P fs nx w':=by
 obtain⟨o,m,V,h1,h2,h3,h4⟩:=h;exact⟨o,m,V,h1.trans (ChgX.of_below hb o NoB) NoB.sub,h2,h3.below hb,hB _ _ _ _ h4 (ChgX.of_below hb o NoB),hv,fun k g0=>⟨(hk k g0).2,h3.lt.none (hk k g0).1⟩⟩
theorem FxO.order (hB:AR B)(h:FxO K n room w0 mb ws0 C o0 wb B P fs nx W) :
 Cl 19 #[Pt mb] W fun x w'=>∃ (v:Value) (l:List Nat),x=.returned v/\l.length=n/\P l/\Ay (l.map Int.ofNat)=true/\OwnI w' W.heap.size v (l.map Int.ofNat)/\FxO K n room w0 mb ws0 C o0 wb (fun W o=>B W o/\AM v (l.map Int.ofNat) W o) (fun l'=>l'=l) fs nx w'/\Bw W w':=by
 obtain⟨o,m,V,h1,h2,h3,h4⟩:=h;have hn64:n<=64:=by have:=h3.ok.store.small;rw[h3.vars] at this;exact this
 refine(Lj h3.is h3.lt (by rw[h3.vars];exact hn64)).mono ?_;rintro x w' ⟨v,rfl,hv,hb⟩;have hp:=h3.ok.store.permB;have hc:=ChgX.of_below hb o NoB;refine⟨v,m.d.vars,rfl,h3.vars,h3.od,MM (Gv hp),hv,⟨o,m,V,h1.trans hc NoB.sub,h2,(h3.below hb).withOd rfl,hB _ _ _ _ h4 hc,hv.sliceIs (by rw[Vw,h3.vars];omega),fun k hk=>?_⟩,hb⟩;have:=hv.lt k hk;exact⟨this.2,h3.lt.none this.1⟩
theorem FxO.vars (h:FxO K n room w0 mb ws0 C o0 wb B P fs nx W):Cl 62 #[Pt mb] W (Sm (Iv n) W) :=
 h.ask fun _ _ _ hs _=>hs.vars_any
theorem FxO.swap (hB:AR B)(h:FxO K n room w0 mb ws0 C o0 wb B P fs nx W)(hk1:k+1<n)(hn:nx<=549755813888)(hr:3*(fs.length*2^n)<=room)(hP:∀ l,l.length=n->P l->P' (exL l k)) :
 Cl 113 #[Pt mb,Iv k] W fun e w'=>e=.returned (Iv 0)/\FxO K n room w0 mb ws0 C o0 wb B P' fs nx w':=by
 obtain⟨o,m,V,h1,h2,h3,h4⟩:=h;refine(Mg h3 hk1 hn hr).mono ?_;rintro e w' ⟨rfl,o2,m2,V2,s⟩;have hc:=ChgX.of_chg s.chg NoB;refine⟨rfl,o2,m2,V2,h1.trans hc NoB.sub,by rw[s.waits];exact h2,s.sat.withOd ?_,hB _ _ _ _ h4 hc⟩;rw[s.sat.od,Mw];exact hP _ h3.vars h3.od
end
structure SlsD (D:Nat->Prop)(W:Wd)(v:Value)(gs:List (List Int)):Prop where
 ex:∃ a c xs,v=.slice a gs.length c/\(a=none->c=0)/\gs.length<=9223372036854775807/\AW W xs gs/\(∀ i (_:i<xs.length),∃ b off,a=some (Aw b off)/\W.cell? (Aw b (off+i))=some xs[i])/\∀ x∈xs,∀ k,x.ownBlock=some k->D k
 own:∀ k,v.ownBlock=some k->D k
theorem SlsD.is {D:Nat->Prop}(h:SlsD D W v gs):AL W v gs:=by
 obtain⟨a,c,xs,h1,h2,h3,h4,h5,_⟩:=h.ex;exact⟨a,c,xs,h1,h2,h3,h4,h5⟩
theorem SlsD.same {D:Nat->Prop}{W W':Wd}{v:Value}{gs:List (List Int)}(h:SlsD D W v gs)(hk:∀ k,D k->W'.heap[k]?=W.heap[k]?):SlsD D W' v gs:=by
 obtain⟨a,c,xs,h1,h2,h3,h4,h5,h6⟩:=h.ex;refine⟨⟨a,c,xs,h1,h2,h3,h4.same fun x hx k e=>hk k (h6 x hx k e),fun i hi=>?_,h6⟩,h.own⟩;obtain⟨b,off,rfl,hc⟩:=h5 i hi;exact⟨b,off,rfl,Co hc (hk b (h.own b (by rw[h1];rfl)))⟩
def SlsB (v:Value)(gs:List (List Int)):Wd->Own->Prop:=fun W o=>∃ D:Nat->Prop,SlsD D W v gs/\∀ k,D k->k<W.heap.size/\o k=none
theorem SlsB.keep :AR (SlsB v gs):=fun W o W' o' ⟨D,h1,h2⟩ hc =>
 ⟨D,h1.same fun k hk=>hc.block k (h2 k hk).1 (h2 k hk).2 (fun e=>e),fun k hk=>⟨VH (h2 k hk).1 hc.size,hc.none' (h2 k hk).1 (h2 k hk).2⟩⟩
theorem SlsB.is {v:Value}{gs:List (List Int)}{W:Wd}{o:Own}(h:SlsB v gs W o):AL W v gs:=by obtain⟨D,h1,_⟩:=h;exact h1.is
def GrB (mb gb:Nat)(lv:Value)(gs:List (List Int)):Wd->Own->Prop:=fun W o=>(W.heap[gb]?=some (.cells #[Pt mb,lv] 95 (0,0))/\o gb=none)/\SlsB lv gs W o
theorem GrB.keep {mb gb:Nat}{lv:Value}{gs:List (List Int)}:AR (GrB mb gb lv gs):=fun W o W' o' h hc =>
 ⟨⟨(hc.block gb (Vm.1 h.1.1).1 h.1.2 (fun e=>e)).trans h.1.1,hc.none' (Vm.1 h.1.1).1 h.1.2⟩,SlsB.keep _ _ _ _ h.2 hc⟩
theorem GrM.toB {o:Own}(h:GrM base mb gb lv gs W)(hl:gs.length<=9223372036854775807)(ho:∀ k,base<=k->o k=none):GrB mb gb lv gs W o:=by
 obtain⟨xs,h1,h2,h3⟩:=h.row;refine⟨⟨h.blk,ho gb h.lo⟩,fun k=>base<=k/\k<W.heap.size,⟨?_,fun k hk=>h1.lt k hk⟩,fun k hk=>⟨hk.2,ho k hk.1⟩⟩;obtain⟨a,c,xs',e,hn,g1,hs',g2⟩:=AL.of_own h1 h2 hl;obtain⟨a2,c2,e2,g0⟩:=h1.slice;rw[h2.len] at e2;refine⟨a2,c2,xs,e2,g0,hl,h2,fun i hi=>?_,fun x hx k hk=>h3 x hx k hk⟩;obtain⟨g,cap,e3,_,_⟩:=h1.shape (by omega);rw[e2] at e3;injection e3 with e3 _ _
 subst e3;rw[e2] at h1;refine⟨g,0,rfl,?_⟩;rw[VJ,h1.cell i hi];simp[hi]
section
variable {r:List (Int×BF)}{P:List Nat->Prop}
theorem TB {o:Own}(h:GrB mb gb lv gs W o):Cl 55 #[Pt gb] W (Sm lv W):=by
 obtain⟨q0,q1,fz⟩:=cells2 h.1.1;obtain⟨a,c,rfl,_⟩:=h.2.is.slice;clear h
 go_enter func55,ntmps55
 go_wp2_with fail;go_ret;exact⟨rfl,rfl⟩
end
theorem MN (a:Option Addr)(c:Nat)(zs:List Int)(w:Wd)(h:Au w a zs)(hlen:zs.length<1000000) :
 Cl 69 #[.slice a zs.length c] w fun e w'=>∃ v,e=.returned v/\SliceIs w' v (Da zs)/\Bw w w':=by
 have HI:=Hd h;clear h
 by_cases hr:Ay zs=true
 ·have HR:=Hd hr;have g1:=((BI zs).1 hr).1;have gc:=Hd g1;clear hr g1
  go_enter func69,ntmps69
  go_wp2_with fail;refine(CC _ _ zs _ HI.o hlen).mono ?_;rintro e w1 ⟨rfl,g3⟩;rw[HR.o];have hs1:=g3.size;go_wp2_with (at_make;refine JA rfl _ _ rfl w.heap.size w _ zs.length rfl rfl rfl (by omega) hs1 g3 ?_;intro g w2 g6 g8 gh gi g9);have gj:=Hd (HI.o.below g8);have g5:OwnI w2 w.heap.size (.slice (some (Av g)) zs.length zs.length) (Cx zs 0):=by rw[Qe];exact g6
  go_loopw [14] (fun i wr=>∃ k:Nat,k<=zs.length/\i=Iv k/\OwnI wr w.heap.size (.slice (some (Av g)) zs.length zs.length) (Cx zs k)/\Bw w wr) (fun i _=>zs.length-(intOf i).toNat)
  case atStart=>exact⟨0,by omega,rfl,g5,g8⟩
  case round =>
   obtain⟨k,hk,rfl,g0,g2⟩:=hrel
   by_cases g4:k<zs.length
   ·obtain⟨gg,gf⟩:=gc.o k g4;have gd:=Hd (HI.o.below g2);obtain⟨b,off,rfl,ge⟩:=gd.o.cells k g4;have q0:=g0.cell (at0 zs k).toNat (by rw[<- g0.len];omega);have p0:=g0.frozen (at0 zs k).toNat;have ga:=Hd (Qf HR.o g4)
    go_wp2
    go_roundw
    case rel=>exact⟨k+1,by omega,by go_num,by rw[<- ga.o];exact g0.stored _ _,g2.setCell g9 _⟩
    case measure=>simp[intOf];omega
   ·obtain rfl:k=zs.length:=by omega
    go_wp2
    go_ret;exact⟨_,rfl,by rw[<- Qg HR.o];exact g0.sliceIs (by rw[<- g0.len];omega),g2⟩
 ·have g7:Ay zs=false:=by simpa using hr
  have HR:=Hd g7;have HF:Hq (Da zs=[]):=by unfold Da;rw[Vn hr];rfl
  clear hr g7
  go_enter func69,ntmps69
  go_wp2_with fail;refine(CC _ _ zs _ HI.o hlen).mono ?_;rintro e w1 ⟨rfl,g3⟩;rw[HR.o];go_wp2_with fail;go_ret;exact⟨_,rfl,by rw[HF.o];exact Fx _,g3⟩
theorem MO (hi:i<gs.length)(h:∀ g∈gs.take i,∀ t,t+1<g.length->Ar zs (at0 g (t+1))=Ar zs (at0 g t)+1)(h2:∀ t,t+1<(gs.getD i []).length->Ar zs (at0 (gs.getD i []) (t+1))=Ar zs (at0 (gs.getD i []) t)+1):∀ g∈gs.take (i+1),∀ t,t+1<g.length->Ar zs (at0 g (t+1))=Ar zs (at0 g t)+1:=by
 intro g hg;rw[Vt hi] at hg;rcases Vy.1 hg with hg|hg
 . exact h g hg
 ·rw[VF] at hg;have e:gs.getD i []=gs[i]:=by simp[List.getD,hi]
  rw[e] at h2;rw[hg];exact h2
theorem Ji (hi:i<gs.length):gs.getD i []∈gs:=by
 have e:gs.getD i []=gs[i]:=by simp[List.getD,hi]
 rw[e];exact Vv _
theorem G0 (hr:Ay zs=true){x:Int}(hx:0<=x/\x<(zs.length:Int)):0<=Ar zs x/\Ar zs x<(zs.length:Int):=by
 obtain⟨k,hk,e⟩:=CT hr (x:=x.toNat) (by omega);have h1:=Cm hr hk;rw[e] at h1;rw[show ((x.toNat:Nat):Int)=x by omega] at h1;omega
section
theorem MP {o:Own}(h:GrB mb gb lv gs W o)(hV:∀ W',Bw W W'->Cl 62 #[Pt mb] W' (Sm (Iv (n:Nat)) W'))(hz:SliceIs W v zs)(hzl:zs.length<=1000)(hin:∀ x∈gs.flatten,0<=x/\x<(n:Int))(hgl:gs.length<=3000)(hgs:∀ g∈gs,g.length<=3000) :
 Cl 25 #[Pt gb,v] W fun x w'=>∃ b,x=.returned (.bool b)/\(b=true↔BV gs zs n)/\Bw W w':=by
 have HV:=Hd hV;obtain⟨q0,q1,fz⟩:=cells2 h.1.1;have HG:=Hd h.1.1;have HS:=Hd h.2.is;obtain⟨al,cl,rfl,_⟩:=h.2.is.slice;obtain⟨az,cz,rfl,g4,_⟩:=id hz;have HZ:=Hd g4;have gf:=Hd (hV W (VA _ _));obtain⟨PP,gr⟩:=Ex (fun b w'=>(b=true↔BV gs zs n)/\Bw W w':Bool->Wd->Prop)
 have gg:=Hd gr;obtain⟨QQ,gq⟩:=Ex (fun x w'=>∃ b,x=.returned (.bool b)/\(b=true↔BV gs zs n)/\Bw W w':Ending->Wd->Prop)
 have HQ:Hq (∀ b w',PP b w'->QQ (.returned (.bool b)) w'):=Hd (by rw[gq,gr];exact fun b w' hh=>⟨b,rfl,hh⟩);have gD:=Hd hin;have gO:=Hd hgs;rw[<- gq];clear h hV hz g4 hin hgs gr gq
 by_cases gy:zs.length=n
 ·subst gy
  by_cases hr:Ay zs=true
  ·have HR:=Hd hr;have go:=I2 hr;clear hr
   go_enter func25,ntmps25
   go_wp2_with fail;refine gf.o.mono ?_;rintro x w' ⟨rfl,rfl⟩;go_wp2_with fail;refine(CC _ _ zs _ HZ.o (by omega)).mono ?_;rintro e w1 ⟨rfl,g2⟩;rw[HR.o];have gC:=Hd (MN az cz zs w1 (HZ.o.below g2) (by omega));have gF:=Hd g2;have c0:=Cq g2 q0;have c1:=Cq g2 q1;clear g2 q0 q1 fz gf;go_wp2_with fail;refine gC.o.mono ?_;rintro e w2 ⟨v2,rfl,gK,ge⟩;obtain⟨at_,ct,rfl,gw,_⟩:=gK;rw[go];have HB2:=Hd (gF.o.trans (ge.mono gF.o.size));have HA:=Hd gw;have gE:=Hd go;have d0:=Cq ge c0;have d1:=Cq ge c1;clear ge gw c0 c1 go gC;go_wp2_with fail
   go_loopw [4,7,8,33] (fun _ _ _ s33 wx=>∃ i:Nat,i<=gs.length/\s33=Iv i/\Hq (Bw w2 wx)/\Hq (∀ g∈gs.take i,∀ t,t+1<g.length->Ar zs (at0 g (t+1))=Ar zs (at0 g t)+1)) (fun _ _ _ s33 _=>gs.length-(intOf s33).toNat)
   case atStart=>exact⟨0,Vu _,rfl,Hd (VA _ _),Hd fun g hg=>by simp at hg⟩
   case round =>
    obtain⟨i,hi,rfl,g3,gv⟩:=hrel
    by_cases gl:i<gs.length
    ·have gX:(i:Int)<gs.length:=by omega
     obtain⟨b,off,c',a2,c2,e1,hc,gj,gV⟩:=(HS.o.below (HB2.o.trans (g3.o.mono HB2.o.size))).elem gl;injection e1 with e1 _ e3
     subst e1 e3;have gc:=Ji gl;have g9:(∀ t,t+1<(gs.getD i []).length->Ar zs (at0 (gs.getD i []) (t+1))=Ar zs (at0 (gs.getD i []) t)+1)->∀ g∈gs.take (i+1),∀ t,t+1<g.length->Ar zs (at0 g (t+1))=Ar zs (at0 g t)+1:=MO gl gv.o;obtain⟨gi,gz⟩:∃ x,x=gs.getD i []:=⟨_,rfl⟩;rw[<- gz] at hc gj gc g9;have gP:=gO.o gi gc;have gt:=Hd gc;have ga:=Hd g9;have gB:=Hd gj;clear gz gc g9 gj;obtain⟨wo,gJ⟩:∃ w,w=wr:=⟨_,rfl⟩;subst gJ;go_wp2_with fail
     go_loopw [4,8] (fun _ s8 wx=>∃ t:Nat,(t=0\/t<gi.length)/\s8=Iv ((t:Nat)+1)/\Hq (Bw wo wx)/\Hq (∀ u,u<t->u+1<gi.length->Ar zs (at0 gi (u+1))=Ar zs (at0 gi u)+1)) (fun _ s8 _=>gi.length+1-(intOf s8).toNat)
     case atStart=>exact⟨0,.inl rfl,rfl,Hd (VA _ _),Hd fun u hu=>by omega⟩
     case round =>
      obtain⟨t,ht,rfl,g6,g7⟩:=hrel
      by_cases g8:t+1<gi.length
      ·have gM:(t:Int)+1<gi.length:=by omega
       have gT:(t:Int)<3000:=by omega
       have gR:t<gi.length:=by omega
       have gS:IntKind.i64.wrap (t:Int)=(t:Int):=Wq _ (by omega);have gQ:IntKind.i64.wrap ((t:Int)+1)=(t:Int)+1:=Wq _ (by omega);have gA:Bw wr wr.drew:=An wr 1;have g5:=Hd (g6.o.trans (gA.mono g6.o.size));have gd:=g3.o.trans (g5.o.mono g3.o.size);obtain⟨bx,ox,ex,x1⟩:=(gB.o.below g5.o).cells (t+1) g8;subst ex;obtain⟨bx',ox',ex,x0⟩:=(gB.o.below g5.o).cells t (by omega);injection ex with ex
       injection ex with ex1 ex2 _
       subst ex1 ex2;have m1:at0 gi (t+1)∈gs.flatten:=Yh.2 ⟨gi,gt.o,by rw[Az g8];exact Vv _⟩;have m0:at0 gi t∈gs.flatten:=Yh.2 ⟨gi,gt.o,by rw[Az (show t<gi.length by omega)];exact Vv _⟩;have r1:=gD.o _ m1;have r0:=gD.o _ m0;obtain⟨k1,gm⟩:∃ k:Nat,at0 gi (t+1)=(k:Int):=⟨(at0 gi (t+1)).toNat,by omega⟩;obtain⟨k0,gn⟩:∃ k:Nat,at0 gi t=(k:Int):=⟨(at0 gi t).toNat,by omega⟩;rw[gm] at x1 r1;rw[gn] at x0 r0;have l1:k1<zs.length:=by omega
       have l0:k0<zs.length:=by omega
       obtain⟨bt,ot,et,y1⟩:=(HA.o.below gd).cells k1 (by rw[gE.o];exact l1);subst et;obtain⟨bt',ot',et,y0⟩:=(HA.o.below gd).cells k0 (by rw[gE.o];exact l0);injection et with et
       injection et with et1 et2 _
       subst et1 et2;rw[FW HR.o l1] at y1;rw[FW HR.o l0] at y0;have p1:=G0 HR.o (x:=(k1:Int)) (by omega);have p0:=G0 HR.o (x:=(k0:Int)) (by omega);obtain⟨z1,gk⟩:∃ z,z=Ar zs (k1:Int):=⟨_,rfl⟩;obtain⟨z0,g4⟩:∃ z,z=Ar zs (k0:Int):=⟨_,rfl⟩;rw[<- gk] at y1 p1;rw[<- g4] at y0 p0;have g1:(k1:Int)<zs.length:=by omega
       have g0:(k0:Int)<zs.length:=by omega
       have zw:IntKind.i64.wrap (z0+1)=z0+1:=Wq _ (by omega);obtain⟨bb,gp⟩:∃ b:Bool,b=(z1 != z0+1):=⟨_,rfl⟩;have gh:Hq (bb=false↔Ar zs (at0 gi (t+1))=Ar zs (at0 gi t)+1):=Hd (by rw[gm,gn,<- gk,<- g4,gp];simp);have gu:=Hd (HB2.o.trans (gd.mono HB2.o.size));clear m1 m0 gm gn gk g4 r1 r0 gA gd g6;go_upto_region 10 with fail;refine AD (fun w':Wd=>w'.cell? ⟨bx,ox+(t+1),none⟩=some (Iv (k1:Nat))/\w'.cell? (Aw bx (ox+t))=some (Iv (k0:Nat))/\w'.cell? (Aw bt (ot+k1))=some (Iv z1)/\w'.cell? (Aw bt (ot+k0))=some (Iv z0)) false 17 [(0,false),(1,false),(2,false),(3,false),(4,false),(5,false),(6,false),(7,false),(8,false),(9,false),(10,false),(11,false),(12,false),(13,false),(14,false),(15,false),(16,false)] (by kernel_rfl) (by kernel_rfl) ⟨x1,x0,y1,y0⟩ ?_;simp only[planned,AC]
       iterate 17
        refine As rfl ?_;apply Exists.intro;refine⟨fun w' hw=>?_,?_⟩
        . obtain⟨h1,h2,h3,h4⟩:=hw;go_simp;rfl
        simp only[Ac]
       refine Bs ?_;rw[<- gp];clear x1 x0 y1 y0 gp;cases bb with
       | true =>
         have HF:=Hd (HQ.o false wr.drew (by
          rw[gg.o];refine⟨⟨(fun e=>by cases e),fun hk=>?_⟩,gu.o⟩;have:=gh.o.2 (hk.2.2 gi gt.o t g8);cases this))
         clear gh gu g7 ga;go_wp2_with fail;exact HF.o
       | false =>
         have gH:Hq (∀ u,u<t+1->u+1<gi.length->Ar zs (at0 gi (u+1))=Ar zs (at0 gi u)+1):=Hd fun u hu gL=>by
          rcases VB u t with c|c
          . exact g7.o u c gL
          ·obtain rfl:u=t:=by omega
           exact gh.o.1 rfl
         clear gh gu g7;go_wp2_with fail;go_roundw
         case rel=>exact⟨t+1,.inr (by omega),by go_num,g5,gH⟩
         case measure=>simp[intOf];omega
      ·have gM:¬ (t:Int)+1<gi.length:=by omega
       have gI:=Hd (ga.o fun u hu=>g7.o u (by omega) hu);have gG:=Hd (g3.o.trans (g6.o.mono g3.o.size));clear ga g7 g6 g3;go_wp2_with fail;go_roundw
       case rel=>exact⟨i+1,by omega,by go_num,gG,gI⟩
       case measure=>simp[intOf];omega
    ·obtain rfl:i=gs.length:=by omega
     have HF:=Hd (HQ.o true wr (by
      rw[gg.o];refine⟨⟨fun _=>⟨rfl,HR.o,fun g hg=>gv.o g (by rw[VI];exact hg)⟩,fun _=>rfl⟩,HB2.o.trans (g3.o.mono HB2.o.size)⟩))
     clear gv g3;go_wp2_with fail;exact HF.o
  ·have gx:Ay zs=false:=by simpa using hr
   have HR:=Hd gx;have gN:Hq (¬ BV gs zs zs.length):=Hd fun hk=>hr hk.2.1
   clear hr gx
   go_enter func25,ntmps25
   go_wp2_with fail;refine gf.o.mono ?_;rintro x w' ⟨rfl,rfl⟩;go_wp2_with fail;refine(CC _ _ zs _ HZ.o (by omega)).mono ?_;rintro e w1 ⟨rfl,g2⟩;rw[HR.o];have HF:=Hd (HQ.o false w1 (by rw[gg.o];exact⟨⟨(fun e=>by cases e),fun hk=>(gN.o hk).elim⟩,g2⟩));clear g2;go_wp2_with fail;exact HF.o
 ·have gU:((zs.length:Int) != (n:Int))=true:=by simp;omega
  have HF:=Hd (HQ.o false W (by rw[gg.o];exact⟨⟨(fun e=>by cases e),fun hk=>(gy hk.1).elim⟩,VA _ _⟩))
  go_enter func25,ntmps25
  go_wp2_with fail;refine gf.o.mono ?_;rintro x w' ⟨rfl,rfl⟩;go_wp2_with fail;exact HF.o
end
structure InsI (gs:List (List Int))(lev:Int->Nat)(i:Nat)(os:List Nat):Prop where
 mem:∀ j,j∈os↔j<i/\grp gs j≠[]
 inc:os.Pairwise fun a b=>lev ((grp gs a).headD 0)<lev ((grp gs b).headD 0)
 len:os.length<=i
section
variable {lev:Int->Nat}
theorem InsI.skip (h:InsI gs lev i os)(he:grp gs i=[]):InsI gs lev (i+1) os:=by
 refine⟨fun j=>?_,h.inc,by have:=h.len;omega⟩;rw[h.mem];constructor
 . exact fun⟨h1,h2⟩=>⟨by omega,h2⟩
 ·rintro⟨h1,h2⟩;refine⟨?_,h2⟩;rcases VB j i with c|c
  . exact c
  ·obtain rfl:j=i:=by omega
   exact(h2 he).elim
theorem InsI.ins (h:InsI gs lev i os)(he:grp gs i≠[])(hk:k<=os.length)(h1:∀ j∈os.drop k,lev ((grp gs i).headD 0)<lev ((grp gs j).headD 0))(h2:∀ t,k=t+1->∀ (ht:t<os.length),lev ((grp gs os[t]).headD 0)<lev ((grp gs i).headD 0)):InsI gs lev (i+1) (os.take k++i::os.drop k):=by
 refine⟨fun j=>?_,?_,by simp only[Vr,VG,VQ,XL];have:=h.len;omega⟩
 ·have e:j∈os↔j∈os.take k\/j∈os.drop k:=by rw[<- Vy,Wy]
  rw[Vy,VX];constructor
  ·rintro(hj|rfl|hj)
   . have:=(h.mem j).1 (e.2 (.inl hj));exact⟨by omega,this.2⟩
   . exact⟨by omega,he⟩
   . have:=(h.mem j).1 (e.2 (.inr hj));exact⟨by omega,this.2⟩
  ·rintro⟨h3,h4⟩;rcases VB j i with c|c
   ·rcases e.1 ((h.mem j).2 ⟨c,h4⟩) with h5|h5
    . exact .inl h5
    . exact .inr (.inr h5)
   . exact .inr (.inl (by omega))
 ·have hp:=h.inc;rw[<- Wy k os,List.pairwise_append] at hp;rw[List.pairwise_append,List.pairwise_cons];refine⟨hp.1,⟨h1,hp.2.1⟩,fun a ha b hb=>?_⟩;have g1:lev ((grp gs a).headD 0)<lev ((grp gs i).headD 0):=by
   obtain⟨u,hu,rfl⟩:=Wj ha;rw[VQ] at hu;have g0:u<os.length:=by omega
   rw[List.getElem_take];obtain⟨t,rfl⟩:∃ t,k=t+1:=⟨k-1,by omega⟩;have h3:=h2 t rfl (by omega);rcases VB u t with c|c
   . have:=VV.1 h.inc u t g0 (by omega) c;omega
   ·obtain rfl:u=t:=by omega
    exact h3
  rcases VX.1 hb with rfl|hb
  . exact g1
  . have:=h1 b hb;omega
theorem InsI.all (h:InsI gs lev gs.length os):Placed gs lev os:=⟨fun j=>h.mem j,h.inc⟩
end
theorem MQ {A B:List Int}{z y:Int}(hk:A.length=k):(A++z::B).set k y=A++y::B:=by
 subst hk;rw[XH _ _ (Vo _),Nat.sub_self,List.set_cons_zero]
theorem TC (ht:t<os.length):(os.take (t+1)).map Int.ofNat++(os[t]:Int)::(os.drop (t+1)).map Int.ofNat=(os.take t).map Int.ofNat++(os[t]:Int)::(os.drop t).map Int.ofNat:=by
 rw[Vt ht,VT ht,VK,VC];rfl
theorem TD (hr:Ay zs=true)(hl:zs.length=n){x y:Int}(hx:0<=x/\x<(n:Int))(hy:0<=y/\y<(n:Int))(e:Ar zs x=Ar zs y):x=y:=by
 obtain⟨k,hk,e1⟩:=CT hr (x:=x.toNat) (by omega);obtain⟨j,hj,e2⟩:=CT hr (x:=y.toNat) (by omega);have h1:=Cm hr hk;have h2:=Cm hr hj;rw[e1,show ((x.toNat:Nat):Int)=x by omega] at h1;rw[e2,show ((y.toNat:Nat):Int)=y by omega] at h2;have:k=j:=by omega
 subst this;omega
theorem Cn.range (h:Cn gs n)(hi:i<gs.length)(ht:t<(grp gs i).length):0<=at0 (grp gs i) t/\at0 (grp gs i) t<(n:Int):=by
 refine(h.mem _).1 (Yh.2 ⟨grp gs i,?_,?_⟩)
 . rw[CL hi];exact Vv _
 . rw[Az ht];exact Vv _
section
variable {r:List (Int×BF)}{P:List Nat->Prop}
theorem MR (hB:AR B)(h:FxO K n room w0 mb ws0 C o0 wb B P fs nx W)(hg:∀ W o,B W o->GrB mb gb lv gs W o)(hw:Cn gs n)(hgl:gs.length<=3000)(hn:n<=64) :
 Cl 111 #[Pt gb] W fun x w'=>∃ (v:Value) (l pl:List Nat),x=.returned v/\l.length=n/\P l/\Ay (l.map Int.ofNat)=true/\Placed gs (levZ (l.map Int.ofNat)) pl/\pl.length<=3000/\FxO K n room w0 mb ws0 C o0 wb (fun W o=>B W o/\AM v (pl.map Int.ofNat) W o) (fun l'=>l'=l) fs nx w':=by
 have hm:=Hd (h.order hB);have hG:∃ o,GrB mb gb lv gs W o:=by obtain⟨o,m,V,_,_,_,h4⟩:=h;exact⟨o,hg _ _ h4⟩
 have gM:=Hd hB;have hN:=Hd hg;have HW:=Hd hw;obtain⟨og,g5⟩:=hG;obtain⟨q0,q1,fz⟩:=cells2 g5.1.1;obtain⟨al,cl,rfl,_⟩:=g5.2.is.slice;obtain⟨QQ,gH⟩:=Ex (fun x w'=>∃ (v:Value) (l pl:List Nat),x=.returned v/\l.length=n/\P l/\Ay (l.map Int.ofNat)=true/\Placed gs (levZ (l.map Int.ofNat)) pl/\pl.length<=3000/\FxO K n room w0 mb ws0 C o0 wb (fun W o=>B W o/\AM v (pl.map Int.ofNat) W o) (fun l'=>l'=l) fs nx w':Ending->Wd->Prop)
 have HQ:Hq (∀ x w' (v:Value) (l pl:List Nat),x=.returned v->l.length=n->P l->Ay (l.map Int.ofNat)=true->Placed gs (levZ (l.map Int.ofNat)) pl->pl.length<=3000->FxO K n room w0 mb ws0 C o0 wb (fun W o=>B W o/\AM v (pl.map Int.ofNat) W o) (fun l'=>l'=l) fs nx w'->QQ x w'):=Hd (by rw[gH];exact fun x w' v l pl h1 h2 h3 h4 h5 h6 h7=>⟨v,l,pl,h1,h2,h3,h4,h5,h6,h7⟩);rw[<- gH];clear h hB hg hw g5 gH
 go_enter func111,ntmps111
 go_wp2_with fail;refine hm.o.mono ?_;rintro x w1 ⟨v1,l,rfl,hl,gZ,go,_,h1,_⟩;obtain⟨zs,gl⟩:=Ex (l.map Int.ofNat);have gw:zs.length=n:=by rw[gl,Vw,hl]
 rw[<- gl] at go h1;have hs1:SliceIs w1 v1 zs:=h1.know (Q:=fun W=>SliceIs W v1 zs) fun W o hh=>hh.2.slice
 obtain⟨a1,c1,rfl,gO,_⟩:=hs1;have hf:=Hd (MN a1 c1 zs w1 gO (by omega));have gu:=I2 go;rw[gw] at gu;have H1:=Hd h1;have HR:=Hd go;have h8:=Hd gl;have g9:=Hd gw;have ho:=Hd (show l.length=n/\P l from ⟨hl,gZ⟩);clear h1 gO go gl hl gZ hm gw q0 q1 fz;go_wp2_with fail;refine hf.o.mono ?_;rintro x w2 ⟨v2,rfl,hC,gY⟩;obtain⟨at_,ct,rfl,gN,_⟩:=hC;rw[gu];have HA:=Hd gN;have ht:=Hd gu;have H2:=Hd (H1.o.below (gM.o.and AM.keep) gY);obtain⟨og2,g5⟩:∃ o,GrB mb gb (.slice al gs.length cl) gs w2 o:=by obtain⟨o,m,V,_,_,_,h4⟩:=H2.o;exact⟨o,hN.o _ _ h4.1⟩
 have k6:=Hd g5.1.1;have hu:=Hd g5.2.is;obtain⟨q0,q1,fz⟩:=cells2 g5.1.1;clear gN gY gu hf H1 g5;go_wp2_with fail
 go_loopw [4,5,6,7,19] (fun s4 _ _ _ s19 wx=>∃ (i:Nat) (os:List Nat),i<=gs.length/\s19=Iv i/\Hq (OwnI wx w2.heap.size s4 (os.map Int.ofNat))/\Hq (Bw w2 wx)/\Hq (InsI gs (levZ zs) i os)) (fun _ _ _ _ s19 _=>gs.length-(intOf s19).toNat)
 case atStart=>exact⟨0,[],Vu _,rfl,Hd (DB _ _),Hd (VA _ _),Hd ⟨fun j=>by simp,List.Pairwise.nil,Vu _⟩⟩
 case round =>
  obtain⟨i,os,hi,rfl,HO,g0,HI⟩:=hrel;have d1:=Cq g0.o q1;clear d1;have hz:os.length<=3000:=by have:=HI.o.len;omega
  by_cases gy:i<gs.length
  ·have k5:(i:Int)<gs.length:=by omega
   obtain⟨bl,ol,c',ai,ci,e1,gG,gm,hZ⟩:=hu.o.elem gy;injection e1 with e1 _ e3
   subst e1 e3;have hc:=Cq g0.o gG;clear gG;have gF:gs.getD i []=grp gs i:=rfl;rw[gF] at hc gm
   by_cases he:grp gs i=[]
   ·rw[he] at hc;have hM:=Hd (HI.o.skip he);clear he HI gm gF;simp only[WI] at hc;go_wp2_with fail;go_roundw
    case rel=>exact⟨i+1,os,by omega,by go_num,HO,g0,hM⟩
    case measure=>simp[intOf];omega
   ·have HE:=Hd he;have gd:0<(grp gs i).length:=X5.2 he;obtain⟨li,gA⟩:∃ x,x=(grp gs i).length:=⟨_,rfl⟩;have gJ:=Hd gA;rw[<- gA] at hc gd;have hI:=Hd gm;have hQ:((li:Int) == 0)=false:=by simp;omega
    have hP:(0:Int)<(li:Int):=by omega
    clear he gm gF gA;obtain⟨a4,c4,e4,_,_⟩:=HO.o.sliceIs (by rw[Vw];omega);rw[Vw] at e4;subst e4;go_wp2_with (at_builtin;refine CQ wr rfl _ _ rfl w2.heap.size w2 _ (os.map Int.ofNat) (i:Int) rfl rfl rfl (by simp) (by exact HO.o) (by rw[Vw];omega) g0.o.size g0.o ?_;intro v5 w5 g7 gX hD hF);have gk:(os.map Int.ofNat++[(i:Int)]).length=os.length+1:=by simp
    rcases id g7.2 with ⟨_,h0⟩|⟨bo,c5,cur,e5,gV,_⟩
    . rw[gk] at h0;omega
    subst e5;rw[gk] at g7 ⊢;obtain⟨bi,oi,ea,x0⟩:=hI.o.cells 0 (by rw[<- gJ.o];exact gd);subst ea;rw[Xj] at x0;have rg:=HW.o.range gy (t:=0) (by rw[<- gJ.o];exact gd);obtain⟨ki,gr⟩:∃ k:Nat,at0 (grp gs i) 0=(k:Int):=⟨(at0 (grp gs i) 0).toNat,by omega⟩;rw[gr] at x0 rg;have gC:ki<n:=by omega
    obtain⟨bt,ot,ea,y0⟩:=HA.o.cells ki (by rw[ht.o];exact gC);subst ea;rw[FW HR.o (by rw[g9.o];exact gC)] at y0;obtain⟨zi,gf⟩:∃ z,z=Ar zs (ki:Int):=⟨_,rfl⟩;rw[<- gf] at y0;have gp:levZ zs ((grp gs i).headD 0)=zi.toNat/\0<=zi/\zi<(n:Int):=by
     have h1:=G0 HR.o (x:=(ki:Int)) (by rw[g9.o];omega);unfold levZ;rw[FZ HE.o,gr,<- gf];rw[<- gf,g9.o] at h1;exact⟨rfl,h1⟩
    have gi:=Hd gp;have hL:=Hd (show at0 (grp gs i) 0=(ki:Int)/\zi=Ar zs (ki:Int) from ⟨gr,gf⟩);have hb:=Hd x0;have ha:=Hd y0;have HM:Hq (OwnI w5 w2.heap.size (.slice (some (Av bo)) (os.length+1) c5) ((os.take os.length).map Int.ofNat++(i:Int)::(os.drop os.length).map Int.ofNat)):=Hd (by rw[VI,List.drop_length,XM];exact g7);have hv:=Hd gV;have hy:=Hd gX;have hS:(ki:Int)<(n:Int):=by omega
    clear gr gf gp x0 y0 rg g7 gX hD hF gk gV HO;go_wp2_with fail
    go_loopw [7] (fun s7 wx=>∃ (k:Nat) (z:Int),k<=os.length/\s7=Iv k/\Hq (OwnI wx w2.heap.size (.slice (some (Av bo)) (os.length+1) c5) ((os.take k).map Int.ofNat++z::(os.drop k).map Int.ofNat))/\Hq (Bw w2 wx)/\Hq (∀ j∈os.drop k,levZ zs ((grp gs i).headD 0)<levZ zs ((grp gs j).headD 0))) (fun s7 _=>(intOf s7).toNat)
    case atStart=>exact⟨os.length,(i:Int),Vo _,rfl,HM,hy,Hd fun j hj=>by simp at hj⟩
    case round =>
     clear HM hy hc
     rename Wd=>wr
     obtain⟨k,z,hk,rfl,HM,gj,ga⟩:=hrel;obtain⟨wz,gn⟩:∃ w,w=wr.drew:=⟨_,rfl⟩;have gh:=Hd gn;have gc:Hq (Bw w2 wz):=Hd (by rw[gn];exact gj.o.trans ((An wr 1).mono gj.o.size));have g6:Hq (OwnI wz w2.heap.size (.slice (some (Av bo)) (os.length+1) c5) ((os.take k).map Int.ofNat++z::(os.drop k).map Int.ofNat)):=Hd (by rw[gn];exact HM.o.below (An wr 1));clear gn;have gg:((os.take k).map Int.ofNat++z::(os.drop k).map Int.ofNat).length=os.length+1:=by
      simp only[Vr,Vw,VQ,VG,XL];omega
     have tkl:((os.take k).map Int.ofNat).length=k:=by rw[Vw,VQ];omega
     have m0:=g6.o.cell k (by rw[gg];omega);have mf:=g6.o.frozen k;have k3:k<os.length+1:=by omega
     have k0:(k:Int)<(os.length:Int)+1:=by omega
     have gI:Hq (OwnI (wz.setCell (Aw bo k) (Iv i)) w2.heap.size (.slice (some (Av bo)) (os.length+1) c5) ((os.take k++i::os.drop k).map Int.ofNat)):=Hd (by
      have h1:=g6.o.stored k (i:Int);rw[MQ tkl] at h1;rw[VK,Wx];exact h1)
     have gL:Hq (Bw w2 (wz.setCell (Aw bo k) (Iv i))):=Hd (gc.o.setCell hv.o _);cases k with
     | zero =>
       have gK:Hq (InsI gs (levZ zs) (i+1) (os.take 0++i::os.drop 0)):=Hd (HI.o.ins HE.o (Vu _) ga.o fun t e=>by omega);clear HM gj gc g6 ga gg tkl;go_upto_region 9 with fail;refine AD (fun _:Wd=>True/\True) false 27 [(0,false),(1,false),(2,false),(3,false),(4,false),(5,false),(6,false),(7,false),(8,false),(9,false),(10,false),(11,false),(12,false),(13,false),(14,false),(15,false),(16,false),(17,false),(18,false),(19,false),(20,false),(21,false),(22,false),(23,false),(24,false),(25,false),(26,false)] (by kernel_rfl) (by kernel_rfl) ⟨trivial,trivial⟩ ?_;simp only[planned,AC]
       iterate 3
        refine As rfl ?_;apply Exists.intro;refine⟨fun w' hw=>?_,?_⟩
        . obtain⟨_,_⟩:=hw;go_simp;rfl
        simp only[Ac]
       iterate 23
        refine DH false (by go_simp) ?_;refine Exists.intro undef (And.intro (fun gU=>absurd gU (by simp)) ?_);simp only[Ac]
       iterate 1
        refine As rfl ?_;apply Exists.intro;refine⟨fun w' hw=>?_,?_⟩
        . obtain⟨_,_⟩:=hw;go_simp;rfl
        simp only[Ac]
       refine Bs ?_;rw[<- gh.o];clear gh;go_wp2_with fail;go_roundw
       case rel=>exact⟨i+1,_,by omega,by go_num,gI,gL,gK⟩
       case measure=>simp[intOf];omega
     | succ t =>
       have gP:t<os.length:=by omega
       have hU:t<os.length+1:=by omega
       obtain⟨j,hj⟩:=Ex (os[t]);have gS:j∈os:=by rw[hj];exact Vv _
       have gE:=(HI.o.mem j).1 gS;have gD:j<gs.length:=by omega
       obtain⟨bl',ol',c'',aj,cj,e1,gv,gx,_⟩:=hu.o.elem gD;injection e1 with e1 _ e3
       injection e1 with e1
       injection e1 with e11 e12 _
       subst e11 e12 e3;rw[show gs.getD j []=grp gs j from rfl] at gv gx;have gt:0<(grp gs j).length:=X5.2 gE.2;obtain⟨bj,oj,ea,x1⟩:=gx.cells 0 gt;subst ea;rw[Xj] at x1;have rg:=HW.o.range gD (t:=0) gt;obtain⟨kj,gq⟩:∃ k:Nat,at0 (grp gs j) 0=(k:Int):=⟨(at0 (grp gs j) 0).toNat,by omega⟩;rw[gq] at x1 rg;have gB:kj<n:=by omega
       have hR:(kj:Int)<(n:Int):=by omega
       obtain⟨bt',ot',ea,y1⟩:=HA.o.cells kj (by rw[ht.o];exact gB);injection ea with ea
       injection ea with ea1 ea2 _
       subst ea1 ea2;rw[FW HR.o (by rw[g9.o];exact gB)] at y1;obtain⟨zj,g8⟩:∃ z,z=Ar zs (kj:Int):=⟨_,rfl⟩;rw[<- g8] at y1;have ge:levZ zs ((grp gs j).headD 0)=zj.toNat/\0<=zj/\zj<(n:Int):=by
        have h1:=G0 HR.o (x:=(kj:Int)) (by rw[g9.o];omega);unfold levZ;rw[FZ gE.2,gq,<- g8];rw[<- g8,g9.o] at h1;exact⟨rfl,h1⟩
       have gQ:zi≠zj:=fun e=>by
        have h1:=hL.o;have h2:=TD HR.o g9.o (x:=(ki:Int)) (y:=(kj:Int)) (by omega) (by omega) (by rw[<- h1.2,<- g8];exact e);have h3:=FT HW.o.ap gy gD (v:=(ki:Int)) (by rw[<- h1.1,Az (by rw[<- gJ.o];exact gd)];exact Vv _) (by rw[h2,<- gq,Az gt];exact Vv _);omega
       have gR:levZ zs ((grp gs os[t]).headD 0)=zj.toNat:=by rw[<- hj];exact ge.1
       have hr:=Hd gR;have hJ:=Hd gQ;have h9:=Hd ge.2;have hE:=gi.o;have o0:=g6.o.cell t (by rw[gg];omega);have oe:at0 ((os.take (t+1)).map Int.ofNat++z::(os.drop (t+1)).map Int.ofNat) t=(j:Int):=by
        rw[DQ (by rw[tkl];omega),CE (by rw[VQ];omega)];simp[List.getD,gP,hj]
       rw[oe] at o0;have b1:=fun(p:Addr) (hp:p.block<w2.heap.size)=>gc.o.cell (p:=p) hp
       have r1:=(b1 (Aw gb 1) (Ah q1)).trans q1;have r2:=(b1 (Aw bl (ol+j)) (Ah gv)).trans gv;have r3:=(b1 (Aw bj oj) (Ah x1)).trans x1;have r4:=(b1 (Aw bt (ot+kj)) (Ah y1)).trans y1;have r5:=(b1 (Aw bi oi) (Ah hb.o)).trans hb.o;have r6:=(b1 (Aw bt (ot+ki)) (Ah ha.o)).trans ha.o;obtain⟨lj,gz⟩:∃ x,x=(grp gs j).length:=⟨_,rfl⟩;rw[<- gz] at r2 gt;have k4:(j:Int)<(gs.length:Int):=by omega
       have hT:(t:Int)<(os.length:Int)+1:=by omega
       have hX:(t:Int)<4000:=by omega
       have hW:IntKind.i64.wrap (t:Int)=(t:Int):=Wq _ (by omega);have HJ:=Hd hj;have hd:=Hd gP;clear gS gE gv gx x1 rg gq y1 g8 ge gQ gR hE oe b1 gz hj;go_upto_region 9 with fail;refine AD (fun w':Wd=>w'.cell? (Aw gb 1)=some (.slice (some (Aw bl ol)) gs.length cl)/\w'.cell? (Aw bl (ol+j))=some (.slice (some (Aw bj oj)) lj cj)/\w'.cell? (Aw bj oj)=some (Iv (kj:Nat))/\w'.cell? (Aw bt (ot+kj))=some (Iv zj)/\w'.cell? (Aw bi oi)=some (Iv (ki:Nat))/\w'.cell? (Aw bt (ot+ki))=some (Iv zi)/\w'.cell? (Aw bo t)=some (Iv (j:Nat))) false 27 [(0,false),(1,false),(2,false),(3,false),(4,false),(5,false),(6,false),(7,false),(8,false),(9,false),(10,false),(11,false),(12,false),(13,false),(14,false),(15,false),(16,false),(17,false),(18,false),(19,false),(20,false),(21,false),(22,false),(23,false),(24,false),(25,false),(26,false)] (by kernel_rfl) (by kernel_rfl) (by rw[<- gh.o];exact⟨r1,r2,r3,r4,r5,r6,o0⟩) ?_;simp only[planned,AC]
       iterate 3
        refine As rfl ?_;apply Exists.intro;refine⟨fun w' hw=>?_,?_⟩
        . obtain⟨h1,h2,h3,h4,h5,h6,h7⟩:=hw;go_simp;rfl
        simp only[Ac]
       iterate 23
        refine DH true (by go_simp) ?_;apply Exists.intro;refine⟨fun gU w' hw=>?_,?_⟩
        . obtain⟨h1,h2,h3,h4,h5,h6,h7⟩:=hw;go_simp;rfl
        simp only[Ac]
       iterate 1
        refine As rfl ?_;apply Exists.intro;refine⟨fun w' hw=>?_,?_⟩
        . obtain⟨h1,h2,h3,h4,h5,h6,h7⟩:=hw;go_simp;rfl
        simp only[Ac]
       refine Bs ?_;rw[<- gh.o];clear gh r1 r2 r3 r4 r5 r6
       by_cases gT:zi<zj
       ·have hK:Hq (OwnI (wz.setCell (Aw bo (t+1)) (Iv j)) w2.heap.size (.slice (some (Av bo)) (os.length+1) c5) ((os.take t).map Int.ofNat++(j:Int)::(os.drop t).map Int.ofNat)):=Hd (by
         have h1:=g6.o.stored (t+1) (j:Int);rw[MQ tkl,HJ.o,TC hd.o,<- HJ.o] at h1;exact h1)
        have hO:Hq (Bw w2 (wz.setCell (Aw bo (t+1)) (Iv j))):=Hd (gc.o.setCell hv.o _);have hA:Hq (∀ q∈os.drop t,levZ zs ((grp gs i).headD 0)<levZ zs ((grp gs q).headD 0)):=Hd fun q hq=>by
         rw[VT hd.o] at hq;rcases VX.1 hq with rfl|hq
         . rw[hr.o,gi.o.1];have:=h9.o;have:=gi.o;omega
         . exact ga.o q hq
        have hH:decide (zi<zj)=true:=We gT;clear HM gj gc g6 ga gI gL gg tkl;go_wp2_with fail;go_roundw
        case rel=>exact⟨t,(j:Int),by omega,by go_num,hK,hO,hA⟩
        case measure=>simp[intOf]
       ·have gK:Hq (InsI gs (levZ zs) (i+1) (os.take (t+1)++i::os.drop (t+1))):=Hd (HI.o.ins HE.o hk ga.o fun t' e hY=>by
         obtain rfl:t=t':=by omega
         rw[hr.o,gi.o.1];have:=hJ.o;have:=h9.o;have:=gi.o;omega)
        have hH:decide (zi<zj)=false:=VU gT;clear HM gj gc g6 ga gg tkl;go_wp2_with fail;go_roundw
        case rel=>exact⟨i+1,_,by omega,by go_num,gI,gL,gK⟩
        case measure=>simp[intOf];omega
  ·obtain rfl:i=gs.length:=by omega
   obtain⟨a5,c5,e5,_,_⟩:=HO.o.sliceIs (by rw[Vw];omega)
   have HF:=Hd (HQ.o (.returned u4) wr u4 l os rfl ho.o.1 ho.o.2 (by rw[<- h8.o];exact HR.o) (by rw[<- h8.o];exact HI.o.all) hz (by
    have h5:=(H2.o.below (gM.o.and AM.keep) (g0.o.trans (VA _ _)));obtain⟨o,m,V,g1,g2,g3,g4⟩:=H2.o;have hc:=ChgX.of_below g0.o o NoB;exact⟨o,m,V,g1.trans hc NoB.sub,g2,g3.below g0.o,(gM.o _ _ _ _ g4.1 hc),HO.o.sliceIs (by rw[Vw];omega),fun k hk=>⟨(HO.o.lt k hk).2,g3.lt.none (HO.o.lt k hk).1⟩⟩))
   rw[e5] at HF ⊢;clear HI HO g0 e5;go_wp2_with fail;exact HF.o
end
theorem MS {ST:TypeId}{b:Nat}(E:D5 T ST z b){o:Oper}(hgd:o.guard=none)(s x:Operand)
 (ho:o.op=.call { callee:=.builtin .append,args:=#[s,x],argTypes:=#[ST,ST] })
 (base:Nat) (w0:Wd) (v:Value) (xs ys:List Value) (ao:Option Addr) (c:Nat) (hs:a.eval s=v) (hx:a.eval x=.slice ao ys.length c)
 (hown:OwnC T wr base v xs) (hys:∀ j (h:j<ys.length),∃ b off,ao=some (Aw b off)/\wr.cell? (Aw b (off+j))=some ys[j]) (h1:∀ u∈ys,u.oneCell'=true) (hlen:xs.length+ys.length<1099511627776) (hbase:base<=wr.heap.size) (hb:Below base w0 wr)
 (hnil:ao=none->c=0)
 (h:∀ v' w',OwnC T w' base v' (xs++ys)->Below base w0 w'->base<=w'.heap.size->BT v v' wr w'->wpList prog ops Q rest (a.put o.dst v') w') :
 wpList prog ops Q (o::rest) a wr:=by
 obtain⟨i,hi,hz,g3,g5⟩:=Xv E.info;have g4:=E.small;cases ao with
 | none =>
   have h0:ys=[]:=by
    apply WH;rcases Nat.eq_zero_or_pos ys.length with h0|h0
    . exact h0
    . obtain⟨b,off,hh,_⟩:=hys 0 h0;cases hh
   subst h0;obtain rfl:=hnil rfl;refine wpList_append_own_none (w:=wr) hgd s x ST ho base T i 1 E.under hi v xs.length xs hs hown hx ?_;exact h v wr (by rw[WM];exact hown) hb hbase ⟨J3 _ _,.inl rfl⟩
 | some ad =>
   refine wpList_append_own_at (w:=wr) hgd s x ST ho base T i z 1 b E.under hi hz g3 g5 (by rw[E.one];rfl) (by decide)
    v xs.length xs hs hown ad ys.length c ys hx (by simp) ?_ h1 (by unfold maxLen;omega) (by
     have h2:(xs.length+ys.length)*b<=1099511627776*100:=Xx (by omega) g4;omega) hbase ?_
   ·intro j u hj;have g0:j<ys.length:=by
     rcases VB j ys.length with h'|h'
     . exact h'
     . simp[VE h'] at hj
    obtain⟨b,off,g6,hc⟩:=hys j g0;cases g6;rw[VD g0] at hj;have hj:=Xc hj;subst hj;have g2:((Aw b off):Addr).add j=(Aw b (off+j)):=by unfold Addr.add;split<;>simp_all
    rw[g2];exact hc
   ·intro v' w' h1 h2 _ g1;refine h v' w' ?_ ?_ ?_ ⟨EA h2,g1.imp id fun e=>⟨_,e,Vo _⟩⟩
    . unfold OwnC;rw[Vr];exact h1
    . exact hb.grown h2 hbase (fun k hk=>(hown.lt k hk).1)
    . have:=h2.size;omega
theorem SliceIs.empty (h:SliceIs W v []):SliceIs W' v []:=by
 obtain⟨a,c,e,⟨h1,h2⟩,h3⟩:=h;exact⟨a,c,e,⟨h1,fun k hk=>by simp at hk⟩,h3⟩
theorem SliceIs.block (h:SliceIs W v zs)(hne:zs≠[])(hk:v.ownBlock=some k):k<W.heap.size:=by
 obtain⟨a,c,rfl,h1,h3⟩:=h;obtain⟨b,off,rfl,hc⟩:=h1.cells 0 (X5.2 hne);injection hk with hk
 subst hk;exact Ah hc
theorem TE (h:SliceIs W v zs):v.oneCell'=true:=by
 obtain⟨a,c,rfl,_⟩:=h;rfl
def RowG (base:Nat)(v:Value)(gs:List (List Int))(W:Wd):Prop:=∃ xs,OwnC 22 W base v xs/\AW W xs gs/\∀ i (h:i<xs.length) (h2:i<gs.length),gs[i]≠[]->∀ k,xs[i].ownBlock=some k->k<W.heap.size/\v.ownBlock≠some k
section
variable {W1:Wd}
theorem RowG.is (h:RowG base v gs W)(hl:gs.length<=9223372036854775807):AL W v gs:=by
 obtain⟨xs,h1,h2,_⟩:=h;exact AL.of_own h1 h2 hl
theorem RowG.below (h:RowG base v gs W)(hb:Bw W W1):RowG base v gs W1:=by
 obtain⟨xs,h1,h2,h3⟩:=h;exact⟨xs,h1.below hb,h2.below hb,fun i hi g1 g0 k hk=>⟨VH (h3 i hi g1 g0 k hk).1 hb.size,(h3 i hi g1 g0 k hk).2⟩⟩
theorem TF (h2:AW W xs gs)(hk:∀ i (h:i<xs.length) (h2:i<gs.length),gs[i]≠[]->∀ k,xs[i].ownBlock=some k->w'.heap[k]?=W.heap[k]?):AW w' xs gs :=
 ⟨h2.len,fun i hi hi2=>by
  by_cases hne:gs[i]=[]
  . have:=h2.at_ i hi hi2;rw[hne] at this ⊢;exact this.empty
  . exact(h2.at_ i hi hi2).same fun k e=>hk i hi hi2 hne k e⟩
theorem RowG.app (h1:OwnC 22 W base v xs)(h2:AW W xs gs)(h3:∀ i (h:i<xs.length) (h2:i<gs.length),gs[i]≠[]->∀ k,xs[i].ownBlock=some k->k<W.heap.size/\v.ownBlock≠some k){y:Value}{g:List Int}(hy:SliceIs W y g)(hyb:g≠[]->∀ k,y.ownBlock=some k->v.ownBlock≠some k)
 (g1:OwnC 22 w' base v' (xs++[y])) (hs:W.heap.size<=w'.heap.size) (hk:BT v v' W w'):RowG base v' (gs++[g]) w':=by
 have g6:AW W (xs++[y]) (gs++[g]):=h2.snoc hy;have hl:=h2.len;have key:∀ i (h:i<(xs++[y]).length) (h2:i<(gs++[g]).length),(gs++[g])[i]≠[]->∀ k,(xs++[y])[i].ownBlock=some k->k<W.heap.size/\v.ownBlock≠some k:=by
  intro i hi g2 g0 k g3;rcases VB i xs.length with h4|h4
  . rw[Wp (by omega)] at g0;rw[Wp h4] at g3;exact h3 i h4 (by omega) g0 k g3
  ·have e:i=xs.length:=by simp at hi;omega
   subst e;rw[W9 (by omega)] at g0;rw[W9 (Vo _)] at g3;have g4:g≠[]:=by simpa using g0
   have g5:y.ownBlock=some k:=by simpa using g3
   exact⟨hy.block g4 g5,hyb g4 k g5⟩
 refine⟨xs++[y],g1,TF g6 fun i hi g2 g0 k e=>hk.keep k (key i hi g2 g0 k e).1 (fun e2=>(key i hi g2 g0 k e).2 e2.symm),fun i hi g2 g0 k e=>⟨VH (key i hi g2 g0 k e).1 hs,hk.ne (key i hi g2 g0 k e).2 (key i hi g2 g0 k e).1⟩⟩
end
theorem TG (hl:AL W v gs)(hgl:gs.length<=1000)(hgs:∀ g∈gs,g.length<=1000)(hn:n<=64) :
 Cl 71 #[v,Iv (n:Nat)] W fun x w'=>∃ u,x=.returned u/\RowG W.heap.size u (AY gs n) w'/\Bw W w':=by
 have HL:=Hd hl;obtain⟨a,c,xs,rfl,gz,gB,gf,gr⟩:=hl;have gJ:=Hd hgs;have gk:=Hd gf;have go:=gf.len;have gK:=Hd gr;obtain⟨fl,gq⟩:=Ex gs.flatten;have gx:=Hd gq;rw[<- go];clear hgs gf gr gq gB
 go_enter func71,ntmps71
 go_wp2_with (at_builtin;refine MS ET rfl _ _ rfl W.heap.size W _ [] xs a c rfl rfl (Cv 22 W W.heap.size (Vo _)) (fun j hj=>by
  obtain⟨b,off,e,h⟩:=gK.o j hj;exact⟨b,off,e,((Af W (.cells #[] 22)).cell (p:=(Aw b (off+j))) (Ah h)).trans h⟩) (fun u hu=>by
  obtain⟨i,hi,rfl⟩:=Wj hu;exact TE (gk.o.at_ i hi (by omega))) (by simp;omega) (by simp) (Af _ _) gz ?_;intro v1 w1 g0 gc hs1 gF;clear gF)
 rw[Wz] at g0
 have gv:Hq (RowG W.heap.size v1 (gs++(AB fl 0).map fun v=>[v]) w1):=Hd (by
  rw[show AB fl 0=[] from rfl,XM,WM];refine⟨xs,g0,gk.o.below gc,fun i hi ga g9 k hk=>?_⟩;have h1:=(gk.o.at_ i hi ga).block g9 hk;exact⟨VH h1 gc.size,fun e=>by have:=(g0.lt k e).1;omega⟩)
 have gy:=Hd gc;clear g0 gc hs1
 go_loopw [5,6,7,8] (fun s5 s6 _ _ wx=>∃ k:Nat,k<=n/\s6=Iv k/\Hq (RowG W.heap.size s5 (gs++(AB fl k).map fun v=>[v]) wx)/\Hq (Bw W wx)) (fun _ s6 _ _ _=>n-(intOf s6).toNat)
 case atStart=>exact⟨0,Vu _,rfl,gv,gy⟩
 case round =>
  clear gv gy;obtain⟨k,hk,rfl,HI,HB⟩:=hrel
  by_cases gP:k<n
  ·have gQ:(k:Int)<(n:Int):=by omega
   obtain⟨wo,gD⟩:∃ w,w=wr:=⟨_,rfl⟩;subst gD;go_wp2_with fail
   go_loopw [7,8] (fun s7 s8 wx=>∃ (i:Nat) (bb:Bool),i<=xs.length/\s8=Iv i/\s7=.bool bb/\Hq (wo=wx)/\Hq (bb=true↔(k:Int)∈(gs.take i).flatten)) (fun _ s8 _=>xs.length-(intOf s8).toNat)
   case atStart=>exact⟨0,false,Vu _,rfl,rfl,Hd rfl,Hd (by simp)⟩
   case round =>
    obtain⟨i,bb,hi,rfl,rfl,HW,HE⟩:=hrel;have hw:=HW.o;subst hw;clear HW
    by_cases gL:i<xs.length
    ·have gR:(i:Int)<xs.length:=by omega
     have gh:i<gs.length:=by omega
     obtain⟨b,off,c',a2,c2,e1,hc,hz,gO⟩:=(HL.o.below HB.o).elem gh;injection e1 with e1 _ e3
     subst e1 e3;have gj:=Et gh;have gA:(gs.getD i []).length<=1000:=gJ.o _ (Ji gh);obtain⟨gi,gp⟩:∃ x,x=gs.getD i []:=⟨_,rfl⟩;rw[<- gp] at hc hz gj gA;have HH:=Hd (KT a2 c2 gi (k:Int) wo (by omega) hz);have gw:=Hd gj;clear hz gj gp;cases bb with
     | true =>
       have gm:Hq (true=true↔(k:Int)∈(gs.take (i+1)).flatten):=Hd ⟨fun _=>by rw[gw.o,Vy];exact .inl (HE.o.1 rfl),fun _=>rfl⟩;clear HE HH;go_wp2_with fail;go_roundw
       case rel=>exact⟨i+1,true,by omega,by go_num,rfl,by first|exact Hd rfl|exact Hd trivial,gm⟩
       case measure=>simp[intOf];omega
     | false =>
       go_wp2_with fail;refine HH.o.mono ?_;rintro y w' ⟨rfl,rfl⟩
       have gm:Hq (decide ((k:Int)∈gi)=true↔(k:Int)∈(gs.take (i+1)).flatten):=Hd (by
        rw[gw.o,Vy,XE];exact⟨fun h=>.inr h,fun h=>h.elim (fun h=>by have:=HE.o.2 h;cases this) id⟩)
       clear HE HH;go_wp2_with fail;go_roundw
       case rel=>exact⟨i+1,decide ((k:Int)∈gi),by omega,by go_num,rfl,by first|exact Hd rfl|exact Hd trivial,gm⟩
       case measure=>simp[intOf];omega
    ·obtain rfl:i=xs.length:=by omega
     have HM:Hq (bb=true↔(k:Int)∈fl):=Hd (by have:=HE.o;rw[go,VI,<- gx.o] at this;exact this);clear HE;cases bb with
     | true =>
       have gl:Hq (RowG W.heap.size u5 (gs++(AB fl (k+1)).map fun v=>[v]) wo):=Hd (by rw[KH (HM.o.1 rfl)];exact HI.o);clear HI HM;go_wp2_with fail;go_roundw
       case rel=>exact⟨k+1,by omega,by go_num,gl,HB⟩
       case measure=>simp[intOf];omega
     | false =>
       have gI:=Hd (KI (fl:=fl) (k:=k) fun h=>by have:=HM.o.2 h;cases this);obtain⟨ys,g7,ge,gn⟩:=HI.o;have gN:ys.length<=1064:=by have:=ge.len;have:=Eu fl k;rw[Vr,Vw] at *;omega
       have gd:=Hd g7;have gG:=Hd ge;have gu:=Hd gn;obtain⟨wn,g5⟩:∃ w,w=wo.alloc (.cells #[Iv k] 3):=⟨_,rfl⟩;have gt:Bw wo wn:=by rw[g5];exact Af _ _
       have gC:wn.heap.size=wo.heap.size+1:=by rw[g5];simp
       have gH:Hq (SliceIs wn (.slice (some (Av wo.heap.size)) 1 1) [(k:Int)]):=Hd ⟨_,1,rfl,by rw[g5];exact Jb wo [(k:Int)] (by simp),fun e=>by cases e⟩;have g6:=Hd gt;have gM:=Hd g5;have gS:=HB.o.size;clear g7 ge gn HI HM gt;go_wp2_with (at_builtin;refine BC ET wn rfl _ _ rfl W.heap.size _ ys (.slice (some (Av wo.heap.size)) 1 1) rfl rfl (by rw[g5]) (by rw[g5];simp) rfl (by exact gd.o.below g6.o) (by omega) (by omega) ?_;intro v5 w5 g8 g1 g2 g3 g4 gg)
       have gl:Hq (RowG W.heap.size v5 (gs++(AB fl (k+1)).map fun v=>[v]) w5):=Hd (by
        rw[gI.o,VK,<- VC]
        exact RowG.app (gd.o.below g6.o) (gG.o.below g6.o) (fun i hi ga g9 q hq=>⟨VH (gu.o i hi ga g9 q hq).1 g6.o.size,(gu.o i hi ga g9 q hq).2⟩) gH.o (fun _ q hq e=>by
         have gE:wo.heap.size=q:=by injection hq
         subst gE;have:=(gd.o.lt _ e).2;omega) g8 g4 gg)
       have HB2:Hq (Bw W w5):=Hd (CA (HB.o.trans (g6.o.mono HB.o.size)) (gd.o.below g6.o) g1 g2 g3 g4 gg (by omega));clear g8 g1 g2 g3 g4 gg g5 gC;go_roundw
       case rel=>exact⟨k+1,by omega,by go_num,gl,HB2⟩
       case measure=>simp[intOf];omega
  ·obtain rfl:k=n:=by omega
   have HF:Hq (RowG W.heap.size u5 (AY gs k) wr):=Hd (by rw[DP,<- gx.o];exact HI.o);obtain⟨ys,g7,_⟩:=HI.o;obtain⟨a5,c5,e5,_⟩:=g7.slice;subst e5;clear HI g7;go_wp2_with fail;go_ret;exact⟨_,rfl,HF.o,HB.o⟩
theorem TH :Bq zs n=decide (zs.length=n/\Ay zs=true):=by
 rw[XF,XE];constructor
 ·intro h;have hp:=Gv h;have hl:=hp.len;refine⟨hl,(BI zs).2 ⟨fun k hk=>?_,fun i hi k hk e=>?_⟩⟩
  . obtain⟨v,hv,e⟩:=hp.lt k (by omega);rw[e];omega
  . have:=hp.inj k i (by omega) (by omega) e;omega
 ·rintro⟨h1,h2⟩;refine Ja h1 (fun v hv=>?_) fun i j hi hj e=>DS h2 (by omega) (by omega) e
  obtain⟨k,hk,e⟩:=CT h2 (x:=v) (by omega);exact⟨k,by omega,e⟩
theorem TI (hl:AL W v gs)(hz:SliceIs W u zs)(hzl:zs.length<=1000)(hgl:gs.length<=1000)(hgs:∀ g∈gs,g.length<=1000) :
 Cl 24 #[v,u,Iv (n:Nat)] W fun x w'=>∃ b,x=.returned (.bool b)/\(b=true↔BV gs zs n)/\Bw W w':=by
 have HL:=Hd hl;obtain⟨al,cl,rfl,_⟩:=hl.slice;obtain⟨az,cz,rfl,g0,_⟩:=hz;have HZ:=Hd g0;have gJ:=Hd hgs;have gy:=Hd (II az cz zs (n:Int) W g0 (by omega));obtain⟨QQ,go⟩:=Ex (fun x w'=>∃ b,x=.returned (.bool b)/\(b=true↔BV gs zs n)/\Bw W w':Ending->Wd->Prop)
 have HQ:Hq (∀ (b:Bool) w',(b=true↔BV gs zs n)->Bw W w'->QQ (.returned (.bool b)) w'):=Hd (by rw[go];exact fun b w' h1 h2=>⟨b,rfl,h1,h2⟩);have gp:Hq (Bq zs (n:Int)=decide (zs.length=n/\Ay zs=true)):=Hd TH;rw[<- go];clear hl g0 hgs go
 go_enter func24,ntmps24
 go_wp2_with fail;refine gy.o.mono ?_;rintro x w' ⟨rfl,rfl⟩;rw[gp.o];clear gy
 by_cases hk:zs.length=n/\Ay zs=true
 ·rw[We hk];have HK:=Hd hk;clear hk gp;go_wp2_with fail
  go_loopw [6,7,8] (fun _ s7 _ wx=>∃ i:Nat,i<=gs.length/\s7=Iv i/\Hq (Bw W wx)/\Hq (∀ g∈gs.take i,∀ t,t+1<g.length->Ar zs (at0 g (t+1))=Ar zs (at0 g t)+1)) (fun _ s7 _ _=>gs.length-(intOf s7).toNat)
  case atStart=>exact⟨0,Vu _,rfl,Hd (VA _ _),Hd fun g hg=>by simp at hg⟩
  case round =>
   obtain⟨i,hi,rfl,g2,gq⟩:=hrel
   by_cases gj:i<gs.length
   ·have gS:(i:Int)<gs.length:=by omega
    obtain⟨b,off,c',a2,c2,e1,gm,gf,gR⟩:=HL.o.elem gj;injection e1 with e1 _ e3
    subst e1 e3;have g9:=Ji gj;have g6:(∀ t,t+1<(gs.getD i []).length->Ar zs (at0 (gs.getD i []) (t+1))=Ar zs (at0 (gs.getD i []) t)+1)->∀ g∈gs.take (i+1),∀ t,t+1<g.length->Ar zs (at0 g (t+1))=Ar zs (at0 g t)+1:=MO gj gq.o;obtain⟨gi,gu⟩:∃ x,x=gs.getD i []:=⟨_,rfl⟩;rw[<- gu] at gm gf g9 g6;have gM:=gJ.o gi g9;have gK:=Hd g9;have g7:=Hd g6;have gv:=Hd gf;have gd:=Hd gm;clear gu g9 g6 gf gm;obtain⟨wo,gB⟩:∃ w,w=wr:=⟨_,rfl⟩;subst gB;go_wp2_with fail
    go_loopw [6,8] (fun _ s8 wx=>∃ t:Nat,(t=0\/t<gi.length)/\s8=Iv ((t:Nat)+1)/\Hq (Bw wo wx)/\Hq (∀ u,u<t->u+1<gi.length->Ar zs (at0 gi (u+1))=Ar zs (at0 gi u)+1)) (fun _ s8 _=>gi.length+1-(intOf s8).toNat)
    case atStart=>exact⟨0,.inl rfl,rfl,Hd (VA _ _),Hd fun u hu=>by omega⟩
    case round =>
     obtain⟨t,ht,rfl,g4,g5⟩:=hrel;have g3:=Hd (g2.o.trans (g4.o.mono g2.o.size));have gG:=(g3.o.cell (p:=(Aw b (off+i))) (Ah gd.o)).trans gd.o
     by_cases gh:t+1<gi.length
     ·have gF:(t:Int)+1<gi.length:=by omega
      have gQ:(t:Int)<3000:=by omega
      have gO:t<gi.length:=by omega
      have gP:IntKind.i64.wrap (t:Int)=(t:Int):=Wq _ (by omega);have gN:IntKind.i64.wrap ((t:Int)+1)=(t:Int)+1:=Wq _ (by omega);obtain⟨wz,g8⟩:∃ w,w=wr.drew:=⟨_,rfl⟩;have gc:=Hd g8;have g1:Hq (Bw W wz):=Hd (by rw[g8];exact g3.o.trans ((An wr 1).mono g3.o.size));have gL:Hq (Bw wo wz):=Hd (by rw[g8];exact g4.o.trans ((An wr 1).mono g4.o.size));have ga:=(g1.o.cell (p:=(Aw b (off+i))) (Ah gd.o)).trans gd.o;obtain⟨bx,ox,ex,x1⟩:=(gv.o.below g1.o).cells (t+1) gh;subst ex;obtain⟨bx',ox',ex,x0⟩:=(gv.o.below g1.o).cells t (by omega);injection ex with ex
      injection ex with ex1 ex2 _
      subst ex1 ex2;obtain⟨k1,gk⟩:∃ k,k=at0 gi (t+1):=⟨_,rfl⟩;obtain⟨k0,gl⟩:∃ k,k=at0 gi t:=⟨_,rfl⟩;rw[<- gk] at x1;rw[<- gl] at x0;have gr:=Hd (Lb (c:=cz) (x:=k1) (HZ.o.below g1.o) (by omega));have gt:=Hd (Lb (c:=cz) (x:=k0) (HZ.o.below g1.o) (by omega));have gI:=J7 zs k0;have gH:=J8 zs k0;obtain⟨z1,gg⟩:∃ z,z=Ar zs k1:=⟨_,rfl⟩;obtain⟨z0,g0⟩:∃ z,z=Ar zs k0:=⟨_,rfl⟩;rw[<- gg] at gr;rw[<- g0] at gt gI gH;have zw:IntKind.i64.wrap (z0+1)=z0+1:=Wq _ (by omega);obtain⟨bb,gn⟩:∃ b:Bool,b=(z1 != z0+1):=⟨_,rfl⟩;have ge:Hq (bb=false↔Ar zs (at0 gi (t+1))=Ar zs (at0 gi t)+1):=Hd (by rw[<- gk,<- gl,<- gg,<- g0,gn];simp);clear gk gl gg g0 g3 g4 g8;go_upto_region 9 with fail;refine AD (fun w':Wd=>(w'.cell? (Aw b (off+i))=some (.slice (some (Aw bx ox)) gi.length c2)/\w'.cell? ⟨bx,ox+(t+1),none⟩=some (Iv k1)/\w'.cell? (Aw bx (ox+t))=some (Iv k0))/\Hq (wz=w')) false 21 [(0,false),(1,false),(2,false),(3,false),(4,false),(5,false),(6,false),(7,false),(9,false),(10,false),(11,false),(12,false),(13,false),(14,false),(15,false),(16,false),(17,false),(8,true),(18,true),(19,false),(20,false)] (by kernel_rfl) (by kernel_rfl) (by rw[<- gc.o];exact⟨⟨ga,x1,x0⟩,Hd rfl⟩) ?_;simp only[planned,AC]
      iterate 17
       refine As rfl ?_;apply Exists.intro;refine⟨fun w' hw=>?_,?_⟩
       . obtain⟨⟨h1,h2,h3⟩,_⟩:=hw;go_simp;rfl
       simp only[Ac]
      refine F8 (v:=Iv z1) rfl (by first|(go_simp;exact⟨rfl,rfl⟩)|go_simp) (by rw[<- gc.o];exact gr.o.mono fun x w' ⟨q1,q2⟩=>⟨q1,by rw[<- q2];exact⟨⟨ga,x1,x0⟩,Hd rfl⟩⟩) ?_;rintro w3 ⟨-,gx⟩;have gD:=gx.o;subst gD;simp only[Ac];refine F8 (v:=Iv z0) rfl (by first|(go_simp;exact⟨rfl,rfl⟩)|go_simp) (gt.o.mono fun x w' ⟨q1,q2⟩=>⟨q1,by rw[<- q2];exact⟨⟨ga,x1,x0⟩,Hd rfl⟩⟩) ?_;rintro w3 ⟨-,gw⟩;have gC:=gw.o;subst gC;simp only[Ac]
      iterate 2
       refine As rfl ?_;apply Exists.intro;refine⟨fun w' hw=>?_,?_⟩
       . obtain⟨⟨h1,h2,h3⟩,_⟩:=hw;go_simp;rfl
       simp only[Ac]
      refine Bs ?_
      try rw[<- gc.o]
      rw[<- gn];clear x1 x0 gn gx gw gc ga gr gt gG;cases bb with
      | true =>
        have HF:=Hd (HQ.o false wz ⟨(fun e=>by cases e),fun hk=>by
         have:=ge.o.2 (hk.2.2 gi gK.o t gh);cases this⟩ g1.o)
        clear ge g5 g7;go_wp2_with fail;exact HF.o
      | false =>
        have gz:Hq (∀ u,u<t+1->u+1<gi.length->Ar zs (at0 gi (u+1))=Ar zs (at0 gi u)+1):=Hd fun u hu gE=>by
         rcases VB u t with c|c
         . exact g5.o u c gE
         ·obtain rfl:u=t:=by omega
          exact ge.o.1 rfl
        clear ge g5;go_wp2_with fail;go_roundw
        case rel=>exact⟨t+1,.inr (by omega),by go_num,gL,gz⟩
        case measure=>simp[intOf];omega
     ·have gF:¬ (t:Int)+1<gi.length:=by omega
      have gA:=Hd (g7.o fun u hu=>g5.o u (by omega) hu);clear g7 g5 g4 g2;go_wp2_with fail;go_roundw
      case rel=>exact⟨i+1,by omega,by go_num,g3,gA⟩
      case measure=>simp[intOf];omega
   ·obtain rfl:i=gs.length:=by omega
    have HF:=Hd (HQ.o true wr ⟨fun _=>⟨HK.o.1,HK.o.2,fun g hg=>gq.o g (by rw[VI];exact hg)⟩,fun _=>rfl⟩ g2.o);clear gq g2;go_wp2_with fail;exact HF.o
 . rw[VU hk];have HF:=Hd (HQ.o false W ⟨(fun e=>by cases e),fun h=>(hk ⟨h.1,h.2.1⟩).elim⟩ (VA _ _));clear hk gp;go_wp2_with fail;exact HF.o
theorem Jj {gs:List (List Int)}{M:Nat}(h:∀ g∈gs,g.length<=M):∀ pl:List Nat,(gather gs pl).length<=pl.length*M
 | []=>by simp[gather]
 | p::pl=>by
   have h1:=Jj h pl;have h2:(grp gs p).length<=M:=by
    rcases VB p gs.length with c|c
    . rw[CL c];exact h _ (Vv _)
    . unfold grp;simp[List.getD,VE c]
   unfold gather at h1 ⊢;rw[WO,Vr,VG,WY];omega
theorem TJ (gs:List (List Int))(v:Int):(headed gs v).length<=gs.length:=by
 unfold headed;refine Vx (Wk _ _) (by simp)
theorem MT (gs:List (List Int)):∀ zs:List Int,(AT gs zs).length<=zs.length*gs.length
 | []=>by simp[AT]
 | z::zs=>by
   have h1:=MT gs zs;have h2:=TJ gs z;unfold AT at h1 ⊢;rw[WO,Vr,VG,WY];omega
def Bg (gs:List (List Int))(v:Int)(k:Nat):List Nat:=(List.range k).filter fun k=>decide ((grp gs k).head?=some v)
theorem TK {v:Int}(h:(grp gs k).head?=some v):Bg gs v (k+1)=Bg gs v k++[k]:=by
 unfold Bg;rw[Xl,Wl];simp[h]
theorem TL {v:Int}(h:(grp gs k).head?≠some v):Bg gs v (k+1)=Bg gs v k:=by
 unfold Bg;rw[Xl,Wl];simp[h]
theorem TM (gs:List (List Int))(v:Int)(k:Nat):(Bg gs v k).length<=k:=by
 unfold Bg;refine Vx (Wk _ _) (by simp)
theorem MU (gs:List (List Int))(a b:List Nat):gather gs (a++b)=gather gs a++gather gs b:=by
 unfold gather;rw[WU]
theorem TO (gs:List (List Int))(k:Nat):gather gs [k]=grp gs k:=by simp[gather]
theorem TP (hi:i<zs.length):AT gs (zs.take (i+1))=AT gs (zs.take i)++Bg gs (at0 zs i) gs.length:=by
 unfold AT;rw[Vt hi,WU,Az hi];simp[headed,Bg]
theorem TQ {g:List Int}(h:0<g.length):g.head?=some (at0 g 0):=by
 cases g with
 | nil=>simp at h
 | cons a r=>rfl
theorem TR (hl:AL W v gs)(hz:SliceIs W u zs)(hzl:zs.length<=64)(hgl:gs.length<=1000)(hgs:∀ g∈gs,g.length<=1000)(hn:n<=64) :
 Cl 27 #[v,u,Iv (n:Nat)] W fun x w'=>∃ u,x=.returned u/\OwnI w' W.heap.size u (gather (AY gs n) (AT (AY gs n) zs))/\Bw W w':=by
 have gq:=Hd (TG hl hgl hgs hn);have gK:=Eu gs.flatten n;have gz:(AY gs n).length<=1064:=by rw[DP,Vr,Vw];omega
 have HM:Hq (∀ g∈AY gs n,g.length<=1000):=Hd fun g hg=>by
  rw[DP] at hg;rcases Vy.1 hg with hg|hg
  . exact hgs g hg
  . obtain⟨v,_,rfl⟩:=Vz.1 hg;simp
 obtain⟨al,gB⟩:=Ex (AY gs n);rw[<- gB] at gq gz HM ⊢;obtain⟨a,c,rfl,_⟩:=hl.slice;obtain⟨az,cz,rfl,gx,_⟩:=hz;have HZ:=Hd gx;have gt:Hq (∀ i k y,i<=zs.length->k<=al.length->(gather al (AT al (zs.take i))++gather al (Bg al y k)).length<=100000000):=Hd fun i k y hi hk=>by
  have h1:=Jj HM.o (AT al (zs.take i));have h2:=MT al (zs.take i);have h3:(zs.take i).length<=64:=by rw[VQ];omega
  have h4:(zs.take i).length*al.length<=64*1064:=Xx h3 gz;have h5:=Jj HM.o (Bg al y k);have h6:=TM al y k;rw[Vr];omega
 clear hl gx hgs gB gK
 go_enter func27,ntmps27
 go_wp2_with fail;refine gq.o.mono ?_;rintro x wA ⟨v7,rfl,gh,gm⟩;have HS:=Hd (gh.is (by omega));obtain⟨a7,c7,rfl,_⟩:=HS.o.slice;have gv:=Hd gm;have gM:=Hd (HZ.o.below gm);clear gh gm gq;go_upto_region 3 with fail;obtain⟨wB,gd⟩:∃ w,w=wA.alloc (.cells #[] 3):=⟨_,rfl⟩;have gF:Hq (OwnI wB wA.heap.size (.slice (some (Av wA.heap.size)) 0 0) (gather al (AT al (zs.take 0)))):=Hd (by rw[gd];exact Ec wA wA.heap.size (Vo _));have gG:Hq (Bw wA wB):=Hd (by rw[gd];exact Af _ _);rw[<- gd];clear gd;go_wp2_with fail
 go_loopw [8,9,10] (fun s8 s9 _ wx=>∃ i:Nat,i<=zs.length/\s9=Iv i/\Hq (OwnI wx wA.heap.size s8 (gather al (AT al (zs.take i))))/\Hq (Bw wA wx)) (fun _ s9 _ _=>zs.length-(intOf s9).toNat)
 case atStart=>exact⟨0,Vu _,rfl,gF,gG⟩
 case round =>
  clear gF gG;obtain⟨i,hi,rfl,HO,HB⟩:=hrel
  by_cases gy:i<zs.length
  ·have gU:(i:Int)<zs.length:=by omega
   obtain⟨bz,oz,ez,y0⟩:=gM.o.cells i gy;subst ez;obtain⟨y,hy⟩:=Ex (at0 zs i);rw[<- hy] at y0;have gD:=Hd y0;have gn:=Hd (TP (gs:=al) gy);rw[<- hy] at gn;have gE:Hq (OwnI wr wA.heap.size u8 (gather al (AT al (zs.take i))++gather al (Bg al y 0))):=Hd (by rw[show Bg al y 0=[] from rfl,show gather al []=[] from rfl,WM];exact HO.o);obtain⟨wo,gJ⟩:∃ w,w=wr:=⟨_,rfl⟩;subst gJ;clear hy y0 HO;go_wp2_with fail
   go_loopw [8,10] (fun s8 s10 wx=>∃ k:Nat,k<=al.length/\s10=Iv k/\Hq (OwnI wx wA.heap.size s8 (gather al (AT al (zs.take i))++gather al (Bg al y k)))/\Hq (Bw wA wx)) (fun _ s10 _=>al.length-(intOf s10).toNat)
   case atStart=>exact⟨0,Vu _,rfl,gE,HB⟩
   case round =>
    clear gE HB;obtain⟨k,hk,rfl,HO,HB⟩:=hrel
    by_cases gH:k<al.length
    ·have gS:(k:Int)<al.length:=by omega
     obtain⟨wz,g5⟩:∃ w,w=wr.drew:=⟨_,rfl⟩;have g1:=Hd g5;have g0:Hq (Bw wA wz):=Hd (by rw[g5];exact HB.o.trans ((An wr 1).mono HB.o.size));have g8:Hq (OwnI wz wA.heap.size u8 (gather al (AT al (zs.take i))++gather al (Bg al y k))):=Hd (by rw[g5];exact HO.o.below (An wr 1));obtain⟨bl,ol,c',ak,ck,e1,g7,g4,gR⟩:=HS.o.elem gH;injection e1 with e1 _ e3
     subst e1 e3;rw[show al.getD k []=grp al k from rfl] at g7 g4;have g6:=Cq g0.o g7;have gg:=(g0.o.cell (p:=(Aw bz (oz+i))) (Ah gD.o)).trans gD.o;have gr:=Hd (fun h=>TK (gs:=al) (v:=y) (k:=k) h);have gf:=Hd (fun h=>TL (gs:=al) (v:=y) (k:=k) h);have ga:=gt.o i (k+1) y (by omega) (by omega)
     by_cases gc:(grp al k).length=0
     ·have gi:grp al k=[]:=WH gc;have go:Hq (OwnI wz wA.heap.size u8 (gather al (AT al (zs.take i))++gather al (Bg al y (k+1)))):=Hd (by rw[gf.o (by rw[gi];simp)];exact g8.o);rw[gc] at g6;clear gc gi g8 HO HB g5 g7 g4 gr gf ga;go_upto_region 9 with fail;refine AD (fun w':Wd=>w'.cell? (Aw bl (ol+k))=some (.slice ak 0 ck)/\True) false 19 [(0,false),(1,false),(2,false),(3,false),(4,false),(5,false),(6,false),(7,false),(8,false),(9,false),(10,false),(11,false),(12,false),(13,false),(14,false),(15,false),(16,false),(17,false),(18,false)] (by kernel_rfl) (by kernel_rfl) (by rw[<- g1.o];exact⟨g6,trivial⟩) ?_;simp only[planned,AC]
      iterate 7
       refine As rfl ?_;apply Exists.intro;refine⟨fun w' hw=>?_,?_⟩
       . obtain⟨h1,_⟩:=hw;go_simp;rfl
       simp only[Ac]
      iterate 11
       refine DH false (by go_simp) ?_;refine Exists.intro undef (And.intro (fun gA=>absurd gA (by simp)) ?_);simp only[Ac]
      iterate 1
       refine As rfl ?_;apply Exists.intro;refine⟨fun w' hw=>?_,?_⟩
       . obtain⟨h1,_⟩:=hw;go_simp;rfl
       simp only[Ac]
      refine Bs ?_;rw[<- g1.o];clear g1 g6 gg;go_wp2_with fail;go_roundw
      case rel=>exact⟨k+1,by omega,by go_num,go,g0⟩
      case measure=>simp[intOf];omega
     ·have g9:0<(grp al k).length:=by omega
      obtain⟨bx,ox,ex,x0⟩:=(g4.below g0.o).cells 0 g9;subst ex;rw[Xj] at x0;obtain⟨h0,gj⟩:∃ x,x=at0 (grp al k) 0:=⟨_,rfl⟩;rw[<- gj] at x0;have ge:=TQ g9;rw[<- gj] at ge;have gC:=Hd g4;obtain⟨gk,gl⟩:∃ x,x=grp al k:=⟨_,rfl⟩;have g3:Hq (h0=y->gather al (Bg al y (k+1))=gather al (Bg al y k)++gk):=Hd fun e=>by rw[gr.o (by rw[ge,e]),MU,TO,gl]
      have gp:Hq (h0≠y->Bg al y (k+1)=Bg al y k):=Hd fun e=>gf.o (by rw[ge];exact fun e2=>e (Xc e2))
      rw[<- gl] at g6 g9 gC;have gQ:(0:Int)<(gk.length:Int):=by omega
      have gu:Hq (h0=y->(gather al (AT al (zs.take i))++gather al (Bg al y k)).length+gk.length<=100000000):=Hd fun e=>by
       have h1:=ga;rw[g3.o e,<- VC,Vr] at h1;exact h1
      clear gc gl ge gj HO HB g5 g7 g4 gr gf ga;go_upto_region 9 with fail;refine AD (fun w':Wd=>w'.cell? (Aw bl (ol+k))=some (.slice (some (Aw bx ox)) gk.length ck)/\w'.cell? (Aw bx ox)=some (Iv h0)/\w'.cell? (Aw bz (oz+i))=some (Iv y)) false 19 [(0,false),(1,false),(2,false),(3,false),(4,false),(5,false),(6,false),(7,false),(8,false),(9,false),(10,false),(11,false),(12,false),(13,false),(14,false),(15,false),(16,false),(17,false),(18,false)] (by kernel_rfl) (by kernel_rfl) (by rw[<- g1.o];exact⟨g6,x0,gg⟩) ?_;simp only[planned,AC]
      iterate 7
       refine As rfl ?_;apply Exists.intro;refine⟨fun w' hw=>?_,?_⟩
       . obtain⟨h1,h2,h3⟩:=hw;go_simp;rfl
       simp only[Ac]
      iterate 11
       refine DH true (by go_simp) ?_;apply Exists.intro;refine⟨fun gA w' hw=>?_,?_⟩
       . obtain⟨h1,h2,h3⟩:=hw;go_simp;rfl
       simp only[Ac]
      iterate 1
       refine As rfl ?_;apply Exists.intro;refine⟨fun w' hw=>?_,?_⟩
       . obtain⟨h1,h2,h3⟩:=hw;go_simp;rfl
       simp only[Ac]
      refine Bs ?_;rw[<- g1.o];clear g1 x0 gg
      by_cases he:h0=y
      ·have hb:(h0 == y)=true:=by simpa using he
       have gN:=Hd (g3.o he);have gI:=Hd (gu.o he);clear he g3 gp gu;go_wp2_with (at_builtin;refine Dn rfl _ _ rfl wA.heap.size wA _ (gather al (AT al (zs.take i))++gather al (Bg al y k)) gk _ ck rfl rfl (by exact g8.o) (by exact gC.o.below g0.o) (by have:=gI.o;omega) g0.o.size g0.o (fun e=>by cases e) ?_;intro v5 w5 gw gL gP gT);go_roundw
       case rel=>exact⟨k+1,by omega,by go_num,Hd (by rw[gN.o,<- VC];exact gw),Hd gL⟩
       case measure=>simp[intOf];omega
      ·have hb:(h0 == y)=false:=by simpa using he
       have go:Hq (OwnI wz wA.heap.size u8 (gather al (AT al (zs.take i))++gather al (Bg al y (k+1)))):=Hd (by rw[gp.o he];exact g8.o);clear he g3 gp gu g8;go_wp2_with fail;go_roundw
       case rel=>exact⟨k+1,by omega,by go_num,go,g0⟩
       case measure=>simp[intOf];omega
    ·obtain rfl:k=al.length:=by omega
     have gO:Hq (OwnI wr wA.heap.size u8 (gather al (AT al (zs.take (i+1))))):=Hd (by rw[gn.o,MU];exact HO.o);clear HO gn;go_wp2_with fail;go_roundw
     case rel=>exact⟨i+1,by omega,by go_num,gO,HB⟩
     case measure=>simp[intOf];omega
  ·obtain rfl:i=zs.length:=by omega
   have g2:=HO.o;rw[VI] at g2;have HF:Hq (OwnI wr W.heap.size u8 (gather al (AT al zs))/\Bw W wr):=Hd ⟨g2.lower gv.o.size,gv.o.trans (HB.o.mono gv.o.size)⟩
   obtain⟨a8,c8,e8,_,_⟩:=g2.sliceIs (by
    have:=gt.o zs.length 0 0 (Vo _) (Vu _);rw[VI,Vr] at this;omega)
   rw[e8] at HF ⊢;clear g2 HO HB e8;go_wp2_with fail;go_ret;exact⟨_,rfl,HF.o⟩
def Jk:Value->Prop
 | .slice _ l c=>l<=c/\c<=maxLen
 | _=>False
def SlsC (W:Wd)(v:Value)(gs:List (List Int)):Prop:=∃ a c xs,v=.slice a gs.length c/\(a=none->c=0)/\gs.length<=9223372036854775807/\AW W xs gs/\(∀ i (_:i<xs.length),∃ b off,a=some (Aw b off)/\W.cell? (Aw b (off+i))=some xs[i])/\∀ x∈xs,Jk x
theorem SlsC.below {W W':Wd}{v:Value}{gs:List (List Int)}(h:SlsC W v gs)(hb:Bw W W'):SlsC W' v gs:=by
 obtain⟨a,c,xs,e,hn,hl,hs,hc,hx⟩:=h;refine⟨a,c,xs,e,hn,hl,hs.below hb,fun i hi=>?_,hx⟩;obtain⟨b,off,ea,hc⟩:=hc i hi;exact⟨b,off,ea,(Cq hb hc)⟩
def cutG (gs:List (List Int)):List (List Int):=(gs.take 8).map fun g=>g.take 8
theorem MV (gs:List (List Int)):(cutG gs).length<=8:=by unfold cutG;rw[Vw,VQ];omega
theorem MW :∀ g∈cutG gs,g.length<=8:=fun g hg=>by
 unfold cutG at hg;obtain⟨h,_,rfl⟩:=Vz.1 hg;rw[VQ];omega
theorem MX {M:Nat}:∀ {gs:List (List Int)},(∀ g∈gs,g.length<=M)->gs.flatten.length<=gs.length*M
 | [],_=>by simp
 | g::gs,h=>by
   have h1:=MX (gs:=gs) fun x hx=>h x (WP _ hx)
   have h2:=h g (VW ..);rw[List.flatten_cons,Vr,VG,WY];omega
theorem TS (gs:List (List Int)):(cutG gs).flatten.length<=64:=by
 have h1:=MX (MW (gs:=gs));have h2:=MV gs;omega
theorem TT {a:Option Addr}{l:Nat}(hh:h<=c)(w:Wd):(Instr.sliceAt 22 (.slice a l c) none (some (Iv (h:Nat))) none).run prog w=.ok (.slice a h c) w:=by
 have e2:(0:Int)<=h/\(h:Int)<=c:=by omega
 simp only[Instr.sliceAt,Instr.slice];go_simp
theorem TU {o:Oper}{t:TypeId}{x hi:Operand}(ho:o.op=.slice t x none (some hi) none)(hr:(Instr.sliceAt t (a.eval x) none (some (a.eval hi)) none).run P w=.ok v w):(execOp a.eval o).run P w=.ok (.value v) w:=by
 unfold execOp;simp[ho,hr]
theorem SliceIs.take {W:Wd}{a:Option Addr}{l c h:Nat}{zs:List Int}(hs:SliceIs W (.slice a l c) zs)(hh:h<=zs.length):SliceIs W (.slice a h c) (zs.take h):=by
 obtain⟨a2,c2,e,⟨h1,h2⟩,h3⟩:=hs;injection e with e1 e2 e3
 subst e1 e2 e3;have hl:(zs.take h).length=h:=by rw[VQ];omega
 refine⟨a,c,by rw[hl],⟨by omega,fun k hk=>?_⟩,h3⟩;obtain⟨b,off,ea,hc⟩:=h2 k (by omega);exact⟨b,off,ea,by rw[hc,FU (by omega)]⟩
theorem TV (hl:SlsC W v gs) :
 Cl 13 #[v] W fun x w'=>∃ u,x=.returned u/\AL w' u (cutG gs)/\(∀ k,u.ownBlock=some k->W.heap.size<=k)/\Bw W w':=by
 obtain⟨a,c,xs,rfl,gO,gQ,gh,gx,gn⟩:=hl;have gK:=Hd gh;have gD:=gh.len;have gr:=Hd gx;have gC:=Hd gn;rw[<- gD];clear gh gx gn
 go_enter func13,ntmps13
 go_upto_region 2 with fail;obtain⟨w1,gc⟩:∃ w,w=W.alloc (.cells #[] 22):=⟨_,rfl⟩;have gz:Hq (RowG W.heap.size (.slice (some (Av W.heap.size)) 0 0) ((gs.take 0).map fun g=>g.take 8) w1):=Hd ⟨[],by rw[gc];exact Cv 22 W W.heap.size (Vo _),AW.nil _,fun i hi=>by simp at hi⟩;have gA:Hq (Bw W w1):=Hd (by rw[gc];exact Af _ _);rw[<- gc];clear gc;go_wp2_with fail
 go_loopw [3,4] (fun s3 s4 wx=>∃ i:Nat,i<=xs.length/\i<=8/\s4=Iv i/\Hq (RowG W.heap.size s3 ((gs.take i).map fun g=>g.take 8) wx)/\Hq (Bw W wx)) (fun _ s4 _=>8-(intOf s4).toNat)
 case atStart=>exact⟨0,Vu _,Vu _,rfl,gz,gA⟩
 case round =>
  clear gz gA;obtain⟨i,hi,gV,rfl,HI,HB⟩:=hrel
  by_cases gE:i<xs.length/\i<8
  ·obtain⟨g6,gT⟩:=gE;have gU:(i:Int)<xs.length:=by omega
   have gP:(i:Int)<8:=by omega
   have gv:i<gs.length:=by omega
   obtain⟨b,off,ea,g7⟩:=gr.o i g6;subst ea;have g0:=gK.o.at_ i g6 gv;have ge:=gC.o _ (Vv g6);obtain⟨ai,ci,ex,hz,gS⟩:=id g0;rw[ex] at g7 ge g0;obtain⟨gi,gm⟩:∃ g,g=gs[i]:=⟨_,rfl⟩;rw[<- gm] at g7 ge g0 hz;obtain⟨wz,ga⟩:∃ w,w=wr.drew:=⟨_,rfl⟩;have gp:=Hd ga;have g8:Hq (Bw W wz):=Hd (by rw[ga];exact HB.o.trans ((An wr 1).mono HB.o.size));have gL:Hq (RowG W.heap.size u3 ((gs.take i).map fun g=>g.take 8) wz):=Hd (by rw[ga];exact HI.o.below (An wr 1));have g5:=Cq g8.o g7;obtain⟨h,hh⟩:=Ex (min gi.length 8:Nat);have gw:h<=ci:=by have:=ge.1;omega
   have gk:min (gi.length:Int) 8=(h:Int):=by omega
   have gM:Hq (∀ w:Wd,(Instr.sliceAt 22 (.slice ai gi.length ci) none (some (Iv (h:Nat))) none).run prog w=.ok (.slice ai h ci) w):=Hd fun w=>TT gw w
   have HY:Hq (SliceIs wz (.slice ai h ci) (gi.take 8)):=Hd (by
    have h1:=(g0.below g8.o).take (h:=h) (by omega);have e:gi.take h=gi.take 8:=by
     rw[hh,List.take_eq_take_iff];omega
    rw[e] at h1;exact h1)
   have gG:Hq (gi.take 8≠[]->∀ k,(Value.slice ai h ci).ownBlock=some k->k<W.heap.size):=Hd fun gj k hk=>g0.block (fun e=>gj (by rw[e];rfl)) (by cases ai<;>exact hk)
   have gJ:Hq ((gs.take (i+1)).map (fun g=>g.take 8)=(gs.take i).map (fun g=>g.take 8)++[gi.take 8]):=Hd (by rw[Vt gv,VK,gm];rfl);obtain⟨ys,g9,gg,gu⟩:=gL.o;have gR:ys.length<=8:=by have:=gg.len;rw[Vw,VQ] at this;omega
   have gf:=Hd g9;have gI:=Hd gg;have gH:=Hd gu;have gt:W.heap.size<=wz.heap.size:=g8.o.size;have gB:=Hd gk;clear ga g0 ge hz ex gm hh gw gk g9 gg gu HI HB g7;go_upto_region 5 with fail;refine AD (fun w':Wd=>w'.cell? (Aw b (off+i))=some (.slice ai gi.length ci)/\True) false 15 [(0,false),(1,false),(2,false),(3,false),(4,false),(5,false),(6,false),(7,false),(8,false),(9,false),(10,true),(11,false),(12,true),(13,true),(14,false)] (by kernel_rfl) (by kernel_rfl) (by rw[<- gp.o];exact⟨g5,trivial⟩) ?_;rw[<- gp.o];simp only[planned,AC]
   iterate 10
    refine As rfl ?_;apply Exists.intro;refine⟨fun w' hw=>?_,?_⟩
    . obtain⟨h1,_⟩:=hw;go_simp;rfl
    simp only[Ac]
   refine Ds rfl (w':=wz) (v:=Iv (h:Nat)) (by go_simp;rw[<- gB.o];try rfl) ⟨g5,trivial⟩ ?_;simp only[Ac];refine As rfl ⟨.slice ai h ci,fun w' hw=>?_,?_⟩
   . exact TU rfl (gM.o w')
   simp only[Ac];refine Ds rfl (w':=wz.alloc (.cells #[.slice ai h ci] 22)) (v:=.slice (some (Av wz.heap.size)) 1 1) (by go_simp) ⟨((Af wz _).cell (p:=(Aw b (off+i))) (Ah g5)).trans g5,trivial⟩ ?_;simp only[Ac];refine I6 rfl ?_;refine BC ET wz rfl _ _ rfl W.heap.size _ ys (.slice ai h ci) rfl rfl rfl rfl rfl (by exact gf.o) (by omega) gt ?_;intro v5 w5 gd g1 g2 g3 g4 gl
   have gN:Hq (RowG W.heap.size v5 ((gs.take (i+1)).map fun g=>g.take 8) w5):=Hd (by
    rw[gJ.o]
    exact RowG.app gf.o gI.o gH.o HY.o (fun gj k hk e=>by
     have h1:=gG.o gj k hk;have h2:=(gf.o.lt k e).1;omega) gd g4 gl)
   have HB2:Hq (Bw W w5):=Hd (CA g8.o gf.o g1 g2 g3 g4 gl gt)
   have gy:=(HB2.o.cell (p:=(Aw b (off+i))) (by
    have:=(gr.o i g6);obtain⟨b',o',e,go⟩:=this;injection e with e
    injection e with e1 e2 _
    subst e1 e2;exact Ah go))
   refine⟨rfl,⟨?_,trivial⟩,?_⟩
   ·rw[gy]
    have h1:=g8.o.cell (p:=(Aw b (off+i))) (by
     obtain⟨b',o',e,go⟩:=gr.o i g6;injection e with e
     injection e with e1 e2 _
     subst e1 e2;exact Ah go)
    rw[<- h1];exact g5
   simp only[Ac]
   iterate 1
    refine As rfl ?_;apply Exists.intro;refine⟨fun w' hw=>?_,?_⟩
    . obtain⟨h1,_⟩:=hw;go_simp;rfl
    simp only[Ac]
   refine Bs ?_;clear gd g1 g2 g3 g4 gl gp gy g5;go_wp2_with fail;go_roundw
   case rel=>exact⟨i+1,by omega,by omega,by go_num,gN,HB2⟩
   case measure=>simp[intOf];omega
  ·have gq:Hq (∀ k,u3.ownBlock=some k->W.heap.size<=k):=Hd fun k hk=>by
    obtain⟨ys,g9,_⟩:=HI.o;exact(g9.lt k hk).1
   have HF:Hq (AL wr u3 (cutG gs)):=Hd (by
    have h1:=HI.o;have e:gs.take i=gs.take 8:=by
     rw[List.take_eq_take_iff];omega
    rw[e] at h1;exact h1.is (by rw[Vw,VQ];omega))
   obtain⟨a3,c3,e3,_⟩:=HF.o.slice;have hd:¬ ((i:Int)<xs.length/\(i:Int)<8):=by omega
   rw[e3] at HF gq ⊢;clear HI e3
   by_cases h1:i<xs.length
   ·have gF:(i:Int)<xs.length:=by omega
    have gX:¬ (i:Int)<8:=by omega
    go_wp2_with fail;go_ret;exact⟨_,rfl,HF.o,gq.o,HB.o⟩
   ·have gF:¬ (i:Int)<xs.length:=by omega
    go_wp2_with fail;go_ret;exact⟨_,rfl,HF.o,gq.o,HB.o⟩
section
variable {r:List (Int×BF)}{P:List Nat->Prop}
theorem TW (hB:AR B)(h:FxO K n room w0 mb ws0 C o0 wb B P fs nx W)(hn:nx<=549755813888)(hr:3*(fs.length*2^n)<=room)(hz:∀ W o,B W o->SliceIs W v zs)(hzr:Ay zs=true)(hzl:zs.length=n) :
 Cl 100 #[Pt mb,v] W fun x w'=>x=.returned (Iv 0)/\FxO K n room w0 mb ws0 C o0 wb B (fun l=>l.map Int.ofNat=zs) fs nx w':=by
 have hn64:n<=64:=by obtain⟨o,m,V,_,_,h3,_⟩:=h;have:=h3.ok.store.small;rw[h3.vars] at this;exact this
 have gg:=Hd (h.order hB);have gi:=Hd hB;have HZ:=Hd hz;have ge:=Hd hzr;have g8:=Hd hzl;have gl:Hq (∀ (B':Wd->Own->Prop) (gd:AR B') (P P':List Nat->Prop) W k,FxO K n room w0 mb ws0 C o0 wb B' P fs nx W->k+1<n->(∀ l,l.length=n->P l->P' (exL l k))->Cl 113 #[Pt mb,Iv k] W fun e w'=>e=.returned (Iv 0)/\FxO K n room w0 mb ws0 C o0 wb B' P' fs nx w'):=Hd fun B' gd P P' W k hA hk hP=>hA.swap gd hk hn hr hP
 obtain⟨a,c,rfl,-⟩:∃ a c,v=.slice a zs.length c/\True:=by
  obtain⟨o,m,V,_,_,_,h4⟩:=h;obtain⟨a,c,e,_⟩:=hz _ _ h4;exact⟨a,c,e,trivial⟩
 clear h hz hzr hzl hr hB
 go_enter func100,ntmps100
 go_wp2_with fail;refine gg.o.mono ?_;rintro x w1 ⟨v1,l,rfl,hl,gk,g1,_,h1,_⟩;have hs1:SliceIs w1 v1 (l.map Int.ofNat):=h1.know (Q:=fun W=>SliceIs W v1 (l.map Int.ofNat)) fun W o hh=>hh.2.slice
 have ga:SliceIs w1 (.slice a zs.length c) zs:=h1.know (Q:=fun W=>SliceIs W (.slice a zs.length c) zs) fun W o hh=>HZ.o _ _ hh.1
 have g3:=Hd (S9 _ _ _ _ w1 hs1 ga (by rw[Vw];omega) (by rw[g8.o];omega));have gf:=Hd (show Ay (l.map Int.ofNat)=true/\(l.map Int.ofNat).length=zs.length from ⟨g1,by rw[Vw,hl,g8.o]⟩);have g5:=Qr g1 ge.o gf.o.2;have g7:C0 (l.map Int.ofNat) zs=0:=by unfold C0;rw[Vs ⟨g1,ge.o⟩,Vs gf.o.2]
 have H1:=Hd h1;obtain⟨ss,g4⟩:=Ex (Ca (l.map Int.ofNat) zs);unfold IV at g3;rw[g7,<- g4] at g3;rw[<- g4] at g5;have gh:=Hd g5.2;have gm:ss.length<=64*64:=by
  have h2:=ML (Ar zs) (l.map Int.ofNat);have h3:(l.map Int.ofNat).length*(l.map Int.ofNat).length<=64*64:=Xx (by rw[Vw];omega) (by rw[Vw];omega);omega
 clear h1 hs1 ga g5 g7 g4 g1 gk gg;go_wp2_with fail;refine g3.o.mono ?_;rintro x w2 ⟨v2,rfl,g0,gc⟩;have h2:=H1.o.mine (gi.o.and AM.keep) gc (g0.sliceIs (by omega)) fun k hk=>g0.lt k hk
 obtain⟨a2,c2,rfl,-,-⟩:=g0.sliceIs (by omega);have H2:Hq (FxO K n room w0 mb ws0 C o0 wb (fun W o=>(B W o/\AM v1 (l.map Int.ofNat) W o)/\AM (.slice a2 ss.length c2) ss W o) (fun l'=>l'.map Int.ofNat=(ss.take 0).foldl AZ (l.map Int.ofNat)) fs nx w2):=Hd (h2.imp fun l' _ e=>by rw[e];rfl);clear h2 g0 gc g3;go_wp2_with fail
 go_loopw [4,8,9,22] (fun _ _ _ s22 wr=>∃ i:Nat,i<=ss.length/\s22=Iv i/\Hq (FxO K n room w0 mb ws0 C o0 wb (fun W o=>(B W o/\AM v1 (l.map Int.ofNat) W o)/\AM (.slice a2 ss.length c2) ss W o) (fun l'=>l'.map Int.ofNat=(ss.take i).foldl AZ (l.map Int.ofNat)) fs nx wr)) (fun _ _ _ s22 _=>ss.length-(intOf s22).toNat)
 case atStart=>exact⟨0,Vu _,rfl,H2⟩
 case round =>
  clear H2;obtain⟨i,hi,rfl,HI⟩:=hrel
  by_cases g2:i<ss.length
  ·have gn:(i:Int)<ss.length:=by omega
   have gj:SliceIs wr (.slice a2 ss.length c2) ss:=HI.o.know (Q:=fun W=>SliceIs W (.slice a2 ss.length c2) ss) fun W o hh=>hh.2.slice
   obtain⟨a3,c3,e3,g9,_⟩:=gj;injection e3 with e3 _ e4
   subst e3 e4;obtain⟨b,off,rfl,hc⟩:=g9.cells i g2;obtain⟨q1,q2⟩:=gh.o.1 (at0 ss i) (by rw[Az g2];exact Vv _);obtain⟨k,hk⟩:∃ k:Nat,at0 ss i=(k:Int):=⟨(at0 ss i).toNat,by omega⟩;rw[hk] at hc;have g6:k+1<n:=by rw[<- g8.o];omega
   have HS:=Hd (gl.o _ ((gi.o.and AM.keep).and AM.keep) _ (fun l'=>l'.map Int.ofNat=(ss.take (i+1)).foldl AZ (l.map Int.ofNat)) wr k HI.o g6 (fun l' hl' e=>by
    rw[T9 (by rw[hl'];exact g6),e,Vt g2,X4,List.foldl_cons,List.foldl_nil,<- Az g2,hk]))
   clear g9 q1 q2 hk g6 HI;go_wp2_with fail;refine HS.o.mono ?_;rintro x w3 ⟨rfl,h3⟩;have H3:=Hd h3;clear h3 HS hc;go_wp2_with fail;go_roundw
   case rel=>exact⟨i+1,by omega,by go_num,H3⟩
   case measure=>simp[intOf];omega
  ·obtain rfl:i=ss.length:=by omega
   have HF:=Hd ((HI.o.withB (B':=B) fun o m V _ hh=>hh.1.1).imp (P':=fun l=>l.map Int.ofNat=zs) fun l' _ e=>by rw[e,VI];exact gh.o.2);clear HI;go_wp2_with fail;go_ret;exact⟨rfl,HF.o⟩
end
section
variable {r:List (Int×BF)}{P:List Nat->Prop}
theorem TX (hB:AR B)(h:FxO K n room w0 mb ws0 C o0 wb B P fs nx W)(hn:nx<=549755813888)(hr:3*(fs.length*2^n)<=room)(hz:∀ W o,B W o->SliceIs W v zs)(hzr:Ay zs=true)(hzl:zs.length=n) :
 Cl 44 #[Pt mb,v] W fun x w'=>x=.returned (Iv 0)/\FxO K n room w0 mb ws0 C o0 wb B (fun l=>l.map Int.ofNat=zs) fs nx w':=by
 have hn64:n<=64:=by obtain⟨o,m,V,_,_,h3,_⟩:=h;have:=h3.ok.store.small;rw[h3.vars] at this;exact this
 have HV:=Hd h.vars;have g2:Hq (∀ w',Bw W w'->Cl 100 #[Pt mb,v] w' fun x w'=>x=.returned (Iv 0)/\FxO K n room w0 mb ws0 C o0 wb B (fun l=>l.map Int.ofNat=zs) fs nx w'):=Hd fun w' hb=>TW hB (h.below hB hb) hn hr hz hzr hzl
 have hs:SliceIs W v zs:=h.know (Q:=fun W=>SliceIs W v zs) fun W o hh=>hz W o hh
 obtain⟨a,c,rfl,g0,_⟩:=hs;have HZ:=Hd g0;have HR:=Hd hzr;subst hzl;clear h hB hz g0 hzr hr
 go_enter func44,ntmps44
 go_wp2_with fail;refine HV.o.mono ?_;rintro x w' ⟨rfl,rfl⟩;go_wp2_with fail;refine(CC _ _ zs _ HZ.o (by omega)).mono ?_;rintro e w1 ⟨rfl,g1⟩;rw[HR.o];have HB2:=Hd (g2.o w1 g1);clear g1 g2;go_wp2_with fail;refine HB2.o.mono ?_;rintro x w2 ⟨rfl,h2⟩;have H2:=Hd h2;clear h2 HB2;go_wp2_with fail;go_ret;exact⟨rfl,H2.o⟩
theorem TY (hi:i<pl.length):(gather gs (pl.take i)).length+(grp gs pl[i]).length<=(gather gs pl).length:=by
 have e:=I3 (gs:=gs) hi;rw[e];simp only[Vr];omega
theorem TZ (hi:i<pl.length):gather gs (pl.take (i+1))=gather gs (pl.take i)++grp gs pl[i]:=by
 unfold gather;rw[Vt hi,WU];simp
theorem MY (hB:AR B)(h:FxO K n room w0 mb ws0 C o0 wb B P fs nx W)(hg:∀ W o,B W o->GrB mb gb lv gs W o)(hn:nx<=549755813888)(hr:3*(fs.length*2^n)<=room)(hv:∀ W o,B W o->SliceIs W v (pl.map Int.ofNat))(hpl:∀ j∈pl,j<gs.length)(hp3:pl.length<=3000)(hgl:gs.length<=3000)(hz:(gather gs pl).length=n)(hzr:Ay (gather gs pl)=true) :
 Cl 110 #[Pt gb,v] W fun x w'=>x=.returned (Iv 0)/\FxO K n room w0 mb ws0 C o0 wb B (fun l=>l.map Int.ofNat=gather gs pl) fs nx w':=by
 have hn64:n<=64:=by obtain⟨o,m,V,_,_,h3,_⟩:=h;have:=h3.ok.store.small;rw[h3.vars] at this;exact this
 have gh:∃ o,GrB mb gb lv gs W o:=by obtain⟨o,m,V,_,_,_,h4⟩:=h;exact⟨o,hg _ _ h4⟩
 have hs:SliceIs W v (pl.map Int.ofNat):=h.know (Q:=fun W=>SliceIs W v (pl.map Int.ofNat)) fun W o hh=>hv W o hh
 obtain⟨og,g5⟩:=gh;obtain⟨q0,q1,fz⟩:=cells2 g5.1.1;obtain⟨al,cl,rfl,_⟩:=g5.2.is.slice;obtain⟨a,c,rfl,g8,_⟩:=hs;rw[Vw];have HS:=Hd g5.2.is;have HZ:=Hd g8;have gl:=Hd hpl;have gn:=Hd hz;have ge:Hq (∀ w' v',Bw W w'->OwnI w' W.heap.size v' (gather gs pl)->Cl 44 #[Pt mb,v'] w' fun x w'=>x=.returned (Iv 0)/\FxO K n room w0 mb ws0 C o0 wb B (fun l=>l.map Int.ofNat=gather gs pl) fs nx w'):=Hd fun w' v' hb ho =>
  (TX (hB.and AM.keep) (h.mine hB hb (ho.sliceIs (by omega)) fun k hk=>ho.lt k hk) hn hr (fun W o hh=>hh.2.slice) hzr hz).mono fun x w2 ⟨h1,h2⟩=>⟨h1,h2.withB fun o m V _ hh=>hh.1⟩
 clear h hB hg hv g8 hpl g5 hr hz hzr
 go_enter func110,ntmps110
 go_wp2_with fail
 go_loopw [5,7,10] (fun s5 _ s10 wx=>∃ i:Nat,i<=pl.length/\s10=Iv i/\Hq (OwnI wx W.heap.size s5 (gather gs (pl.take i)))/\Hq (Bw W wx)) (fun _ _ s10 _=>pl.length-(intOf s10).toNat)
 case atStart=>exact⟨0,Vu _,rfl,Hd (by rw[XZ];exact DB _ _),Hd (VA _ _)⟩
 case round =>
  obtain⟨i,hi,rfl,HO,g0⟩:=hrel
  by_cases g1:i<pl.length
  ·have gr:(i:Int)<pl.length:=by omega
   obtain⟨bv,ov,ea,gc⟩:=(HZ.o.below g0.o).cells i (by rw[Vw];exact g1);subst ea;rw[CE g1] at gc;obtain⟨j,hj⟩:=Ex (pl[i]);have ga:pl.getD i 0=j:=by rw[hj];simp[List.getD,g1]
   rw[ga] at gc;have gg:j<gs.length:=gl.o j (by rw[hj];exact Vv _);have gq:(j:Int)<(gs.length:Int):=by omega
   obtain⟨bl,ol,c',aj,cj,e1,gd,g3,gf⟩:=(HS.o.below g0.o).elem gg;injection e1 with e1 _ e3
   subst e1 e3;rw[show gs.getD j []=grp gs j from rfl] at gd g3;have g2:=TY (gs:=gs) g1;have g4:=TZ (gs:=gs) g1;rw[<- hj] at g2 g4;rw[gn.o] at g2;obtain⟨gj,g9⟩:∃ x,x=grp gs j:=⟨_,rfl⟩;rw[<- g9] at gd g3 g2 g4;have gi:=Hd g3;have gk:=Hd g4;have gm:=Hd g2;have c1:=Cq g0.o q1;clear hj ga g3 g9 g2 g4;go_wp2_with (at_builtin;refine Dn rfl _ _ rfl W.heap.size W _ (gather gs (pl.take i)) gj aj cj rfl rfl (by exact HO.o) (by exact gi.o) (by have:=gm.o;omega) g0.o.size g0.o gf ?_;intro v1 w1 g6 g7 go gp);go_roundw
   case rel=>exact⟨i+1,by omega,by go_num,Hd (by rw[gk.o];exact g6),Hd g7⟩
   case measure=>simp[intOf];omega
  ·obtain rfl:i=pl.length:=by omega
   have HT:=Hd (ge.o wr u5 g0.o (by have:=HO.o;rwa [VI] at this));have c0:=Cq g0.o q0;clear HO g0 ge;go_wp2_with fail;refine HT.o.mono ?_;rintro x w2 ⟨rfl,h2⟩;have H2:=Hd h2;clear h2 HT;go_wp2_with fail;go_ret;exact⟨rfl,H2.o⟩
theorem MZ (hB:AR B)(h:FxO K n room w0 mb ws0 C o0 wb B P fs nx W)(hg:∀ W o,B W o->GrB mb gb lv gs W o)(hw:Cn gs n)(hgl:gs.length<=3000)(hn:nx<=549755813888)(hr:3*(fs.length*2^n)<=room) :
 Cl 56 #[Pt gb] W fun x w'=>x=.returned (Iv 0)/\∃ (l pl:List Nat),l.length=n/\P l/\Ay (l.map Int.ofNat)=true/\Placed gs (levZ (l.map Int.ofNat)) pl/\FxO K n room w0 mb ws0 C o0 wb B (fun l=>l.map Int.ofNat=gather gs pl) fs nx w':=by
 have hn64:n<=64:=by obtain⟨o,m,V,_,_,h3,_⟩:=h;have:=h3.ok.store.small;rw[h3.vars] at this;exact this
 have g1:=Hd (MR hB h hg hw hgl hn64);have g0:Hq (∀ w' (v:Value) (l pl:List Nat),Placed gs (levZ (l.map Int.ofNat)) pl->pl.length<=3000->FxO K n room w0 mb ws0 C o0 wb (fun W o=>B W o/\AM v (pl.map Int.ofNat) W o) (fun l'=>l'=l) fs nx w'->Cl 110 #[Pt gb,v] w' fun x w'=>x=.returned (Iv 0)/\FxO K n room w0 mb ws0 C o0 wb B (fun l=>l.map Int.ofNat=gather gs pl) fs nx w'):=Hd fun w' v l pl hp hl hh=>by
  obtain⟨h1,h2⟩:=FX hw hp;exact(MY (hB.and AM.keep) hh (fun W o hb=>hg W o hb.1) hn hr (fun W o hb=>hb.2.slice) (fun j hj=>((hp.mem j).1 hj).1) hl hgl h1 h2).mono fun x w2 ⟨q1,q2⟩=>⟨q1,q2.withB fun o m V _ hb=>hb.1⟩
 clear h hB hg hr hw hn
 go_enter func56,ntmps56
 go_wp2_with fail;refine g1.o.mono ?_;rintro x w1 ⟨v,l,pl,rfl,h1,h2,h3,h4,h5,h6⟩;have HT:=Hd (g0.o w1 v l pl h4 h5 h6);have HK:=Hd (show l.length=n/\P l/\Ay (l.map Int.ofNat)=true/\Placed gs (levZ (l.map Int.ofNat)) pl from ⟨h1,h2,h3,h4⟩);clear h1 h2 h3 h4 h5 h6 g1 g0;go_wp2_with fail;refine HT.o.mono ?_;rintro x w2 ⟨rfl,hh⟩;have H2:=Hd hh;clear hh HT;go_wp2_with fail;go_ret;exact⟨rfl,l,pl,HK.o.1,HK.o.2.1,HK.o.2.2.1,HK.o.2.2.2,H2.o⟩
end
theorem Ua (n room:Nat)(w:Wd)(hn:n<=64)(h1:1<=room)(h2:room<=1048576) :
 Cl 39 #[Iv n,Iv room] w fun x w'=>∃ mb,x=.returned (.tuple #[Pt mb,Iv 0])/\∃ o m V,SatE K n (fun l=>l=List.range n) room w mb two 2 w' o m V/\m.waits=[]:=by
 refine(K9 (F:=K (man0 n room).d (fun _ _=>true)) (fun _=>none) n room w (fun k r h=>by cases h) hn h1 h2).mono ?_;rintro x w1 ⟨mb,o1,rfl,g0,g2,g1,_⟩;exact⟨mb,rfl,o1,man0 n room,fun _ _=>true,⟨g0,g1,K8 n room hn,by simp[man0,store0],by simp[man0,store0],by simp[man0,store0,pool0],rfl,by simp[man0,two,ef];constructor<;>rfl,ChgX.of_chg g2 NoB⟩,rfl⟩
def gs24:List (List Int):=[[3,1],[0],[2]]
theorem Na:AY [[3,1]] 4=gs24:=by decide +kernel
theorem Nb:Cg [[3,1]] 4 0:=.inr (.inr ⟨rfl,by
 intro x hx;simp at hx;omega,by decide⟩)
theorem whole24:Cn gs24 4:=by rw[<- Na];exact KM Nb
theorem Ub:BV gs24 [0,3,1,2] 4:=by
 refine⟨rfl,by decide +kernel,fun g hg t ht=>?_⟩;simp only[gs24,VX,XK,or_false] at hg;rcases hg with rfl|rfl|rfl
 ·obtain rfl:t=0:=by simp at ht;omega
  decide +kernel
 . simp at ht
 . simp at ht
theorem Uc:¬ BV gs24 [1,3,0,2] 4:=fun h=>by
 have:=h.2.2 [3,1] (by simp[gs24]) 0 (by simp);revert this
 decide +kernel
theorem Ud (h:Placed gs24 (levZ ((List.range 4).map Int.ofNat)) pl):gather gs24 pl=[0,2,3,1]:=by
 have h2:=I4 (gs:=gs24) (n:=4) whole24 (zs:=(List.range 4).map Int.ofNat) (by decide +kernel) (by simp);rw[h.uniq h2]
 decide +kernel
theorem Ea (w:Wd)(zs:List Int)(n:Nat)(hn:n=zs.length)(hl:zs.length<=1000000)(cs:Array Value)(hcs:cs=(Aq zs).toArray):SliceIs (w.alloc (.cells cs 3)) (.slice (some (Av w.heap.size)) n n) zs:=by
 subst hcs hn;exact⟨_,_,rfl,Jb w zs hl,fun e=>by cases e⟩
theorem Nc (W:Wd)(xs:List Value)(gs:List (List Int))(hs:AW W xs gs)(hl:gs.length<=1000)(n N:Nat)(hn:n=gs.length)(hN:N=W.heap.size)(cs:Array Value)(hcs:cs=xs.toArray):AL (W.alloc (.cells cs 22)) (.slice (some (Av N)) n n) gs:=by
 subst hn hN hcs;refine⟨_,_,xs,rfl,(fun e=>by cases e),by omega,hs.below (Af _ _),fun i hi=>⟨W.heap.size,0,rfl,?_⟩⟩;rw[VJ,Vp _ _ i _ _ _ (Vq _ _)];simp[hi]
theorem Ue (w:Wd)(N:Nat)(hN:N=(w.alloc (.cells #[Iv 3,Iv 1] 3)).heap.size):AL ((w.alloc (.cells #[Iv 3,Iv 1] 3)).alloc (.cells #[.slice (some (Av w.heap.size)) 2 2] 22)) (.slice (some (Av N)) 1 1) [[3,1]] :=
 Nc _ [.slice (some (Av w.heap.size)) 2 2] [[3,1]] ⟨rfl,fun i h1 h2=>by
  obtain rfl:i=0:=by simp at h1;omega
  exact Ea w [3,1] 2 rfl (by simp) _ rfl⟩ (by simp) 1 _ rfl hN _ rfl
theorem Uf (w:Wd)(N1 N2 N:Nat)(h1:N1=w.heap.size+1)(h2:N2=w.heap.size+1+1)(hN:N=w.heap.size+1+1+1):AL ((((w.alloc (.cells #[Iv 3,Iv 1] 3)).alloc (.cells #[Iv 0] 3)).alloc (.cells #[Iv 2] 3)).alloc (.cells #[.slice (some (Av w.heap.size)) 2 2,.slice (some (Av N1)) 1 1,.slice (some (Av N2)) 1 1] 22)) (.slice (some (Av N)) 3 3) gs24:=by
 obtain⟨w1,g2⟩:∃ x,x=w.alloc (.cells #[Iv 3,Iv 1] 3):=⟨_,rfl⟩;obtain⟨w2,g1⟩:∃ x,x=w1.alloc (.cells #[Iv 0] 3):=⟨_,rfl⟩;obtain⟨w3,g0⟩:∃ x,x=w2.alloc (.cells #[Iv 2] 3):=⟨_,rfl⟩;rw[<- g2,<- g1,<- g0];have z1:w1.heap.size=w.heap.size+1:=by rw[g2];simp
 have z2:w2.heap.size=w.heap.size+1+1:=by rw[g1];simp[z1]
 have z3:w3.heap.size=w.heap.size+1+1+1:=by rw[g0];simp[z2]
 have b2:Bw w1 w2:=by rw[g1];exact Af _ _
 have b3:Bw w2 w3:=by rw[g0];exact Af _ _
 have s1:SliceIs w1 (.slice (some (Av w.heap.size)) 2 2) [3,1]:=by rw[g2];exact Ea w [3,1] 2 rfl (by simp) _ rfl
 have s2:SliceIs w2 (.slice (some (Av w1.heap.size)) 1 1) [0]:=by rw[g1];exact Ea w1 [0] 1 rfl (by simp) _ rfl
 have s3:SliceIs w3 (.slice (some (Av w2.heap.size)) 1 1) [2]:=by rw[g0];exact Ea w2 [2] 1 rfl (by simp) _ rfl
 rw[z1] at s2;rw[z2] at s3;rw[<- h1] at s2;rw[<- h2] at s3;refine Nc w3 [.slice (some (Av w.heap.size)) 2 2,.slice (some (Av N1)) 1 1,.slice (some (Av N2)) 1 1] gs24 ⟨rfl,fun i h1 h2=>?_⟩ (by simp[gs24]) 3 N rfl (by rw[hN,z3]) _ rfl;rcases(show i=0\/i=1\/i=2 by simp at h1;omega) with rfl|rfl|rfl
 . exact(s1.below b2).below b3
 . exact s2.below b3
 . exact s3
abbrev G24 (K:Law)(w:Wd)(mb gb:Nat)(lv:Value)(P:List Nat->Prop)(W:Wd):Prop:=FxO K 4 9000 w mb [] NoB (fun _=>none) w (GrB mb gb lv gs24) P two 2 W
theorem Nd {K:Law}(w:Wd):Cl 16 #[] w (Bl (.bool true) w):=by
 have gc:=Hd (Ua (K:=K) 4 9000 w (by omega) (by omega) (by omega))
 go_enter func16,ntmps16
 go_wp2_with fail;refine gc.o.mono ?_;rintro x w1 ⟨mb,rfl,o,m,V,g4,gf⟩;have gn:Hq (∀ W v,Bw w1 W->AL W v [[3,1]]->Cl 18 #[Pt mb,v] W fun x w'=>∃ gb lv,x=.returned (.tuple #[Pt gb,Iv 0])/\Bw w1 w'/\G24 K w mb gb lv (fun l=>l=List.range 4) w'):=Hd fun W v hb hv=>by
  refine(Lh (n:=4) (fun W' ga=>((g4.below hb).below ga).vars_any.mono fun x w' h=>h) hv (by simp) (by simp) (by omega) (by omega)).mono ?_;rintro x w' ⟨g9,e,hc,⟨gr,_⟩|⟨_,gb,lv,rfl,hg⟩⟩
  . exact(gr (hc.uniq Nb)).elim
  . rw[Na] at hg;have g0:=hb.trans (g9.mono hb.size);have gq:=g4.below g0;exact⟨gb,lv,rfl,g0,o,m,V,g4.chg.trans (ChgX.of_below g0 o NoB) NoB.sub,by rw[gf];exact List.suffix_refl _,gq,hg.toB (by decide) fun k hk=>g4.lt.none (Vx hb.size hk)⟩
 clear g4 gf gc;go_wp2_with fail;refine(gn.o _ _ ((Af _ _).alloc (by simp) _) (Ue w1 _ (by simp))).mono ?_;rintro x w2 ⟨gb,lv,rfl,g9,g5⟩;have gp:=Hd g5;have gu:=Hd (g5.ask (f:=55) (args:=#[Pt gb]) (R:=(Sm lv w2)) fun o m V _ hh=>TB hh);have g7:AL w2 lv gs24:=g5.know (Q:=fun W=>AL W lv gs24) fun W o hh=>hh.2.is
 obtain⟨al,cl,rfl,_⟩:=g7.slice;have g6:Hq (∀ W v,Bw w2 W->AL W v gs24->Cl 54 #[.slice al gs24.length cl,v] W (Bl (.bool true) W)):=Hd fun W v hb hv=>by
  have:=Q7 (g7.below hb) hv (by simp[gs24]) (fun g hg=>by simp[gs24] at hg;rcases hg with rfl|rfl|rfl<;>simp);rw[We rfl] at this;exact this
 have g3:Hq (∀ W v zs (b:Bool),Bw w2 W->SliceIs W v zs->zs.length<=1000->(b=true↔BV gs24 zs 4)->Cl 25 #[Pt gb,v] W (Bl (.bool b) W)):=Hd fun W v zs b hb hv hz hk =>
  (gp.o.below GrB.keep hb).ask fun o m V hs hh=>(MP (n:=4) hh (fun W' ga=>(hs.below ga).vars_any.mono fun x w' h=>h) hv hz (fun x hx=>(whole24.mem x).1 hx) (by simp[gs24]) (fun g hg=>by simp[gs24] at hg;rcases hg with rfl|rfl|rfl<;>simp)).mono fun x w' ⟨b',h1,h2,h3⟩=>⟨by rw[h1,show b'=b from XF.2 (h2.trans hk.symm)],h3⟩
 have go:Hq (∀ W,Bw w2 W->Cl 56 #[Pt gb] W fun x w'=>x=.returned (Iv 0)/\G24 K w mb gb (.slice al gs24.length cl) (fun l=>l.map Int.ofNat=[0,2,3,1]) w'):=Hd fun W hb =>
  (MZ GrB.keep (gp.o.below GrB.keep hb) (fun W o hh=>hh) whole24 (by simp[gs24]) (by omega) (by simp[two])).mono fun x w' ⟨h1,l,pl,h2,h3,h4,h5,h6⟩=>⟨h1,h6.imp fun l' _ e=>by
   subst h3;rw[e,Ud h5]⟩
 have gl:Bw w w2:=g5.below0;have gx:=Hd gl;clear g5 g7 g9 gl gn;go_wp2_with fail;refine gu.o.mono ?_;rintro x w' ⟨rfl,rfl⟩;go_wp2_with fail;refine(g6.o _ _ ((((Af _ _).alloc (by simp) _).alloc (by simp;omega) _).alloc (by simp;omega) _) (Uf w2 _ _ _ (by simp) (by simp) (by simp))).mono ?_;rintro x w3 ⟨rfl,g0⟩;have g2:Hq (Bw w2 w3):=Hd (((((Af w2 (.cells #[Iv 3,Iv 1] 3)).alloc (by simp) (.cells #[Iv 0] 3)).alloc (by simp;omega) (.cells #[Iv 2] 3)).alloc (by simp;omega) _).trans (g0.mono (by simp;omega)));clear g0;go_wp2_with fail;refine(g3.o _ _ [0,3,1,2] true (g2.o.trans ((Af _ _).mono g2.o.size)) (Ea w3 [0,3,1,2] 4 rfl (by simp) _ rfl) (by simp) ⟨fun _=>Ub,fun _=>rfl⟩).mono ?_;rintro x w4 ⟨rfl,gk⟩;have g1:Hq (Bw w2 w4):=Hd ((g2.o.trans ((Af w3 _).mono g2.o.size)).trans (gk.mono (by have:=g2.o.size;simp;omega)));clear gk;go_wp2_with fail;refine(g3.o _ _ [1,3,0,2] false (g1.o.trans ((Af _ _).mono g1.o.size)) (Ea w4 [1,3,0,2] 4 rfl (by simp) _ rfl) (by simp) ⟨(fun e=>by cases e),fun hk=>(Uc hk).elim⟩).mono ?_;rintro x w5 ⟨rfl,gj⟩;have gw:Hq (Bw w2 w5):=Hd ((g1.o.trans ((Af w4 _).mono g1.o.size)).trans (gj.mono (by have:=g1.o.size;simp;omega)));have gd:=Hd (go.o w5 gw.o);clear gj g6 g3 go g2 g1;go_wp2_with fail;refine gd.o.mono ?_;rintro x w6 ⟨rfl,gh⟩;have gm:=Hd (gh.order GrB.keep);clear gh gd;go_wp2_with fail;refine gm.o.mono ?_;rintro x w7 ⟨v,l,rfl,hl,hP,_,_,g8,_⟩;have gg:SliceIs w7 v [0,2,3,1]:=g8.know (Q:=fun W=>SliceIs W v [0,2,3,1]) fun W o hh=>by rw[<- hP];exact hh.2.slice
 have ge:=Hd g8.below0;have gt:=Hd gg;clear g8 hP gg gm;go_wp2_with fail;refine(La (gt.o.below (Af _ _)) (Ea w7 [0,2,3,1] 4 rfl (by simp) _ rfl) (by simp)).mono ?_;rintro x w8 ⟨rfl,gi⟩;have gv:Hq (Bw w w8):=Hd ((ge.o.trans ((Af w7 _).mono ge.o.size)).trans (gi.mono (by have:=ge.o.size;simp;omega)));clear gi;go_wp2_with fail;go_ret;exact⟨rfl,gv.o⟩
def Eb (l:List BF)(F:BF):Prop:=∃ i,∃ h:i<l.length,l[i]=F\/l[i]=notF F
end Go.Proofs.YtkidaindpahefaaGreat
