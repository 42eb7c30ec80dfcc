/- Several texts in one file: contracts of the program's functions and what follows from them. -/
import Derived.Test.YtkbegdkpboklpaaGreatK7
import Derived.Deep.WholeRow
import Derived.Deep.Slices
import Derived.ChangeArms
import Derived.WideShapes
set_option linter.unusedSimpArgs false
set_option linter.unusedVariables false
set_option linter.unusedSectionVars false
set_option linter.unnecessarySimpa false
set_option maxRecDepth 100000
set_option maxHeartbeats 8000000
namespace Go.Proofs.YtkbegdkpboklpaaGreat
open Go.Proofs.Tryz
open Go.RowKit
section
variable {K:Law}{n room L:Nat}{w0 w wb W W':World}{mb g base:Nat}{fs X bs r:List (Int×BF)}{nx nx':Int}{o o0:Own}{m:ManD}{V:Nat->BF}{ws0:List Ev}{C D:Nat->Prop}{B:Nat->World->Own->Prop}{lop:Array Value}{Φ:BF->BF}{c:Int}{Q:BF}
theorem Zyc (hK:Zbh K)(hf:FunC K n room w0 mb ws0 L C B bs g lop Φ (fun _=>0) c)(hC:∀ k,C k->k<W.heap.size)(hlow:∀ j,LowB W.heap.size (B j))(j0:Nat)(hj0:j0<=900000)(h:FxS K n room w0 mb ws0 C o0 wb (B j0) fs nx W)(hb:B2 fs)(hbs:∀ p∈bs,p∈fs){q:Int}(hq:(q,Q)∈fs)(hd:∀ i,DepF n (Zci Φ Q i)){most:Int}{M:Nat}(hM:min (max most 0) 4096=(M:Int))(hc:c<=100)(hn:nx+500000<549755813888)(hl:fs.length+2*2^n+8<=L)(hr:(L+8)*2^n<=room) :
 Calls prog 33 #[.pointer (some ⟨mb,0,none⟩),.int .i64 q,.func (.func g) #[] lop,.int .i64 most] W (Zzu K n room w0 mb ws0 C o0 wb W.heap.size B Φ c j0 Q M fs nx):=by
 have hW:∀ (fn:Fn) (first cap:Array Value) (w:World),(Instr.makeFunc fn first cap).run prog w=.ok (.func fn first cap) w:=fun _ _ _ _=>rfl
 have hZ:=hf.nat;have gX:M<=4096:=by omega
 obtain⟨w4,gv⟩:∃ w4,w4=(((W.alloc (.cells #[.pointer (some ⟨mb,0,none⟩)] 41)).alloc (.cells #[.slice none 0 0] 23)).alloc (.cells #[.bool false] 4)).alloc (.cells #[.int .i64 0] 25):=⟨_,rfl⟩;obtain⟨w5,gD⟩:∃ w5,w5=w4.alloc (.cells #[.slice none 0 0] 23):=⟨_,rfl⟩;obtain⟨gV,c04,h5⟩:=Zte h (hf.keep j0) gv gD;have h0:Hid (_=w4):=Hd gv.symm;have gZ:Hid (_=w5):=Hd gD.symm;have HM:Hid (Calls prog 85 #[.pointer (some ⟨mb,0,none⟩),.int .i64 q,.func (.func g) #[] lop] w4 fun x w'=>x=.returned (.int .i64 0)/\w4=w'):=Hd ((h.below (hf.keep j0) gV).ask fun o m V hs=>Zm9 (nil:=false) hs (.inr ⟨⟨_,hq⟩,.inr ⟨rfl,rfl⟩⟩));obtain⟨hs1,gS⟩:=h.size;have gR:w4.heap.size=W.heap.size+1+1+1+1:=by rw[gv];simp
 obtain⟨s,hs⟩:∃ s,s=W.heap.size:=⟨_,rfl⟩;have HSZ:=Hd (show wb.heap.size<=s/\w0.heap.size<=s by rw[hs];exact⟨hs1,gS⟩);have g0:Hid (∀ j,LowB s (B j)):=Hd (by rw[hs];exact hlow);have g6:Hid (∀ j,Zdf (B j)):=Hd hf.keep;have gQ:Hid (∀ k,C k->k<s):=Hd (by rw[hs];exact hC);have hQ:=Hd hf;have HK:=Hd hK;have HB2:=Hd hb;have hT:=Hd hbs;have hR:=Hd hd;have k0:=Hd hs;have gk:=Hd gX;have ha:Hid (∀ l,l<=L+8->l*2^n<=room):=Hd fun l hl=>Nat.le_trans (Nat.mul_le_mul_right _ hl) hr
 have hL:=Hd hl;have HQ:=Hd hq;rw[<- hs] at h5;have gn:=Hd (h5.copy hK (RkF.keepB (hf.keep j0)) (by omega) hq);have eg:=hf.enters;have eg2:=Zor;obtain⟨⟨a0,a1,a2,a3,a4⟩,b1,b2,b3,b4⟩:=h5.cells;obtain⟨P,hP⟩:∃ P,P=Zzu K n room w0 mb ws0 C o0 wb W.heap.size B Φ c j0 Q M fs nx:=⟨_,rfl⟩;have HP:Hid (∀ x w',Zzu K n room w0 mb ws0 C o0 wb s B Φ c j0 Q M fs nx x w'->P x w'):=Hd (by rw[hP,hs];exact fun _ _ e=>e);rw[<- hP];clear hP h hf hC hlow hb hbs hq hd hK gV h5 hs1 gS gv gD gX hl hr;rw[<- hs] at c04 gR
 go_enter_defers func33,ntmps33
 go_upto_region 1 with fail;rw[h0.out];rw[<- hs];clear hs;go_wp2_with fail;refine HM.out.mono ?_;rintro x w' ⟨rfl,rfl⟩;go_upto_region 6 with fail;rw[gZ.out];clear hM;go_wp2_with fail;refine gn.out.mono ?_;rintro x w6 ⟨rfl,h6⟩;clear a0 a1 a2 a3 a4 b1 b2 b3 b4 c04 gn HM h0 gZ gR;obtain⟨⟨a0,a1,a2,a3,a4⟩,b1,b2,b3,b4⟩:=RkF.cells h6;go_upto_region 10 with fail;obtain⟨w7,gC⟩:∃ w7,w7=w6.setCell ⟨s+1+1+1,0,none⟩ (.int .i64 0):=⟨_,rfl⟩;have h7:RkF K n room w0 mb ws0 C o0 wb s (B j0) (fs++[(nx,Q)]) (nx+1) (.slice none 0 0) (.slice none 0 0) false 0 (.slice none 0 0) (.slice none 0 0) [] [] w7:=by rw[gC];exact RkF.set3 h6 HSZ.out.1 HSZ.out.2 (g0.out j0) 0
 rw[<- gC];clear a0 a1 a2 a3 a4 b1 b2 b3 b4 h6 gC;obtain⟨⟨a0,a1,a2,a3,a4⟩,b1,b2,b3,b4⟩:=h7.cells;have HA:Hid (∀ v W',OwnC 3 W' (s+5) v (Za1 []++[.int .i64 nx])->W'.os=w7.os->W'.tape=w7.tape->W'.output=w7.output->w7.heap.size<=W'.heap.size->Zcp (.slice none 0 0) v w7 W'->RkF K n room w0 mb ws0 C o0 wb s (B j0) (fs++[(nx,Q)]) (nx+1) (.slice none 0 0) (.slice none 0 0) false 0 (.slice none 0 0) v [] [nx] W'):=Hd fun v W' q1 q2 q3 q4 q5 q6=>RkF.appH h7 HSZ.out.1 HSZ.out.2 (g0.out j0) q1 q2 q3 q4 q5 q6
 have HO:=Hd h7.ownH;have HZ:=Hd h7.size;clear h7;go_upto_region 11 with (at_builtin;refine Zb6 Zhp _ rfl _ _ rfl (s+5) _ (Za1 []) _ rfl rfl rfl rfl rfl (by exact HO.out) (by simp[Za1]) (by exact HZ.out) ?_;intro v8 w8 gl g1 g2 g3 g4 gU;obtain⟨al8,cl8,e8⟩:=Zqv gl;subst e8;clear a0 a1 a2 a3 a4 b1 b2 b3 b4;have h8:=HA.out _ w8 gl g1 g2 g3 g4 gU;clear gl g1 g2 g3 g4 gU;obtain⟨⟨a0,a1,a2,a3,a4⟩,b1,b2,b3,b4⟩:=RkF.cells h8)
 obtain⟨w9,gB⟩:∃ w9,w9=w8.setCell ⟨s+1+1+1+1,0,none⟩ (.slice al8 1 cl8):=⟨_,rfl⟩;have h9:RkF K n room w0 mb ws0 C o0 wb s (B j0) (fs++[(nx,Q)]) (nx+1) (.slice none 0 0) (.slice none 0 0) false 0 (.slice al8 1 cl8) (.slice al8 1 cl8) [] [nx] w9:=by rw[gB];exact RkF.set4 h8 HSZ.out.1 HSZ.out.2 (g0.out j0) _
 rw[<- gB];clear a0 a1 a2 a3 a4 b1 b2 b3 b4 h8 gB HA HO HZ;obtain⟨⟨a0,a1,a2,a3,a4⟩,b1,b2,b3,b4⟩:=h9.cells;have gn:=Hd (h9.copy HK.out (RkF.keepB (g6.out j0)) (by omega) (k:=q) (F:=Q) (by simp[HQ.out]));clear h9;go_wp2_with fail;refine gn.out.mono ?_;rintro x w10 ⟨rfl,gx⟩;rw[List.append_assoc,show nx+1+1=nx+2 by omega] at gx;clear a0 a1 a2 a3 a4 b1 b2 b3 b4 gn;obtain⟨⟨a0,a1,a2,a3,a4⟩,b1,b2,b3,b4⟩:=RkF.cells gx;go_upto_region 12 with fail;obtain⟨w11,gq⟩:∃ w11,w11=w10.setCell ⟨s+1+1+1,0,none⟩ (.int .i64 0):=⟨_,rfl⟩;have gO:RkF K n room w0 mb ws0 C o0 wb s (B j0) (fs++[(nx,Q),(nx+1,Q)]) (nx+2) (.slice none 0 0) (.slice none 0 0) false 0 (.slice al8 1 cl8) (.slice al8 1 cl8) [] [nx] w11:=by rw[gq];exact RkF.set3 gx HSZ.out.1 HSZ.out.2 (g0.out j0) 0
 rw[<- gq];clear a0 a1 a2 a3 a4 b1 b2 b3 b4 gx gq;have hg:=Hd (Zyg (Φ:=Φ) (c:=c) gO HB2.out);obtain⟨⟨a0,a1,a2,a3,a4⟩,b1,b2,b3,b4⟩:=gO.cells;clear gO;go_wp2_with fail;clear a0 a1 a2 a3 a4 b1 b2 b3 b4
 go_loopw [13,14,15,16,17,18] (fun s13 s14 _ _ _ _ wr=>∃ (i:Nat) (ka kr:Int),i<=M/\s13=.int .i64 ka/\s14=.int .i64 kr/\Hid (∃ X rs hv nx' vl vh,RkI K n room w0 mb ws0 C o0 wb s B Φ c j0 Q fs nx i ka kr X rs hv nx' vl vh wr)) (fun _ _ _ _ _ _ wr=>M+1-Zm6 wr (s+1))
 case atStart=>exact⟨0,nx,nx+1,Nat.zero_le _,rfl,by simp,Hd ⟨_,_,_,_,_,_,hg.out⟩⟩
 case round =>
  clear hg;obtain⟨i,ka,kr,hX,rfl,rfl,HH⟩:=hrel;obtain⟨X,rs,hv,nx1,vl,vh,hI⟩:=HH.out;obtain⟨⟨al,cl,rfl⟩,ah,ch,rfl⟩:=hI.row;have HI:=Hd hI
  have gb:Hid (nx<=nx1/\nx1+200<=nx+490000):=Hd (by
   have h1:=hI.lo;have h2:=hI.hi;have h3:(i:Int)*(c+2)<=4096*102:=Int.mul_le_mul (by have:=gk.out;omega) (by omega) (by omega) (by omega);omega)
  have gF:i<=2^n:=Zyf hR.out hI.rings;have gy:Hid (X.length+6<=L):=Hd (by have:=hI.len;have:=hL.out;omega);have gz:=Hd (hI.two HB2.out);obtain⟨⟨a0,a1,a2,a3,a4⟩,b1,b2,b3,b4⟩:=RkF.cells hI.st;have hN:=Hd (Zl0 a1);have g8:=hI.st
  have hO:Hid (1<kr):=Hd (by
   obtain⟨Y,hY⟩:=hI.pre;have hm:=hI.ring;have hk:=hI.fil;have hB:=g8.nodup;have hD:(kr,Zci Φ Q i)∈Y:=by
    rw[hY] at hm;rcases List.mem_append.1 hm with h|h
    .
     exfalso;have h1:(X.filter fun p=>decide (p.1∉hv)).map Prod.fst=(fs++(rs++[(kr,Zci Φ Q i)])).map Prod.fst:=by rw[hk]
     have h2:((fs++(rs++[(kr,Zci Φ Q i)])).map Prod.fst).Nodup:=by
      rw[<- h1];exact hB.sublist (List.filter_sublist.map _)
     rw[List.map_append,List.nodup_append] at h2;exact h2.2.2 kr (List.mem_map.2 ⟨_,h,rfl⟩) kr (by simp) rfl
    . exact h
   exact FxS.gt1 g8 hY HB2.out hD)
  by_cases hz:i=M
  .
   subst hz;have HD:=Hd (FxS.drop1F HK.out (RkF.keepB (g6.out (j0+i))) g8 (by have:=gb.out;omega) hI.ring hO.out rfl)
   have hJ:=Hd (show ((fs++(rs++[(kr,Zci Φ Q i)])).map Prod.fst).Nodup by
    rw[<- hI.fil];exact g8.nodup.sublist (List.filter_sublist.map _))
   clear hI g8 gF HH gy;go_wp2_with fail;refine HD.out.mono ?_;rintro x w12 ⟨rfl,gh⟩;clear a0 a1 a2 a3 a4 b1 b2 b3 b4;obtain⟨⟨a0,a1,a2,a3,a4⟩,b1,b2,b3,b4⟩:=RkF.cells gh
   have HF:Hid (((X.filter fun p=>decide (p.1≠kr)).filter fun p=>decide (p.1∉hv))=fs++rs):=Hd (by
    rw[List.filter_filter,show (fun p:Int×BF=>decide (p.1∉hv)&&decide (p.1≠kr))=fun p=>decide (p.1≠kr)&&decide (p.1∉hv) from funext fun p=>Bool.and_comm _ _,<- List.filter_filter,HI.out.fil,<- List.append_assoc];refine Zso ?_;rw[List.append_assoc];exact hJ.out)
   have gP:=Hd gh;clear gh HD;go_wp2_with fail;obtain⟨w13,g7⟩:∃ w,w=((w12.setCell ⟨s+1,0,none⟩ (.slice al i cl)).setCell ⟨s+1+1,0,none⟩ (.bool false)).setCell ⟨s+1+1+1,0,none⟩ (.int .i64 0):=⟨_,rfl⟩;have gj:=RkF.set3 (RkF.set2 (RkF.set1 gP.out HSZ.out.1 HSZ.out.2 (g0.out (j0+i)) (.slice al i cl)) HSZ.out.1 HSZ.out.2 (g0.out (j0+i)) false) HSZ.out.1 HSZ.out.2 (g0.out (j0+i)) 0;have gN:RkF K n room w0 mb ws0 C o0 wb s (B (j0+i)) (X.filter fun p=>decide (p.1≠kr)) nx1 (.slice al i cl) (.slice al i cl) false 0 (.slice ah (i+1) ch) (.slice ah (i+1) ch) (rs.map Prod.fst) hv w13:=by rw[g7];exact gj
   rw[<- g7];clear gj g7 gP;refine leaves_cons (f:=86) (args:=#[.pointer (some ⟨s,0,none⟩),.pointer (some ⟨s+4,0,none⟩),.pointer (some ⟨s+3,0,none⟩),.pointer (some ⟨s+1,0,none⟩),.pointer (some ⟨s+2,0,none⟩)]) (by simp) (by simp[go_sem]) ?_
   refine(Zv9 HK.out gQ.out (g6.out (j0+i)) gN (by have:=gb.out;omega) (by rw[HI.out.hlen];have:=gk.out;omega) HI.out.nd HI.out.gt (fun k hk=>by
    obtain⟨F,hF⟩:=HI.out.inX k hk;refine⟨F,List.mem_filter.2 ⟨hF,?_⟩⟩;simp only[decide_eq_true_eq];intro e;subst e;have h1:(k,Zci Φ Q i)∈X.filter fun p=>decide (p.1∉hv):=by rw[HI.out.fil];simp
    have h2:=(List.mem_filter.1 h1).2;simp[hk] at h2) HF.out .returning).mono ?_
   rintro e u' w14 ⟨rfl,rfl,gg⟩;obtain⟨⟨q0,q1,q2,q3,q4⟩,_⟩:=RkF.cells gg;have gs:=Hd (HP.out (.returned (.tuple #[.slice al i cl,.bool false,.int .i64 0])) w14 ⟨i,i,rs,nx1,_,_,rfl,Nat.le_refl _,gb.out.1,by have:=gb.out;omega,HI.out.snd,.inl ⟨rfl,rfl,HI.out.rings,rfl⟩,gg.withB fun o m V _ hh=>⟨hh.b,hh.l⟩⟩);clear gg gN a0 a1 a2 a3 a4 b1 b2 b3 b4;simp[Leaves,settle,results,Tryz.results33,go_sem,q1,q2,q3];exact gs.out
  .
   have gA:Hid (i<M):=Hd (by omega);have hU:((i:Nat):Int)≠(M:Int):=by omega
   have k3:=Hd gF;have HA:Hid (∀ v W',OwnC 3 W' (s+5) v (Za1 (rs.map Prod.fst)++[.int .i64 kr])->W'.os=wr.os->W'.tape=wr.tape->W'.output=wr.output->wr.heap.size<=W'.heap.size->Zcp (.slice al i cl) v wr W'->RkF K n room w0 mb ws0 C o0 wb s (B (j0+i)) X nx1 (.slice al i cl) v false 0 (.slice ah (i+1) ch) (.slice ah (i+1) ch) (rs.map Prod.fst++[kr]) hv W'):=Hd fun v W' q1 q2 q3 q4 q5 q6=>RkF.appL g8 HSZ.out.1 HSZ.out.2 (g0.out (j0+i)) q1 q2 q3 q4 q5 q6
   have HO:=Hd g8.ownL;have HZ:=Hd g8.size;have gT:(rs.map Prod.fst).length=i:=by rw[List.length_map];exact hI.rlen
   have hE:=Hd gT;have gm:Hid ((Za1 (rs.map Prod.fst)).length<1099511627776):=Hd (by have:=gk.out;simp[Za1,hI.rlen];omega);have hS:Hid (∀ p∈bs,p∈X):=Hd fun p hp=>by
    obtain⟨Y,hY⟩:=hI.pre;rw[hY];exact List.mem_append_left _ (hT.out p hp)
   have gu:=Hd hI.all;clear hI g8 gF HH gT;go_upto_region 18 with (at_builtin;refine Zb6 Zhp _ rfl _ _ rfl (s+5) _ (Za1 (rs.map Prod.fst)) _ rfl rfl rfl rfl rfl (by exact HO.out) (by exact gm.out) (by exact HZ.out) ?_;intro v12 w12 gd g1 g2 g3 g4 gI;obtain⟨al2,cl2,e12⟩:=Zqv gd;rw[hE.out] at e12;subst e12;clear a0 a1 a2 a3 a4 b1 b2 b3 b4;have gh:=HA.out _ w12 gd g1 g2 g3 g4 gI;clear gd g1 g2 g3 g4 gI;obtain⟨⟨a0,a1,a2,a3,a4⟩,b1,b2,b3,b4⟩:=RkF.cells gh)
   obtain⟨w13,g7⟩:∃ w,w=w12.setCell ⟨s+1,0,none⟩ (.slice al2 (i+1) cl2):=⟨_,rfl⟩;have gj:RkF K n room w0 mb ws0 C o0 wb s (B (j0+i)) X nx1 (.slice al2 (i+1) cl2) (.slice al2 (i+1) cl2) false 0 (.slice ah (i+1) ch) (.slice ah (i+1) ch) (rs.map Prod.fst++[kr]) hv w13:=by rw[g7];exact RkF.set1 gh HSZ.out.1 HSZ.out.2 (g0.out (j0+i)) _
   rw[<- g7];clear a0 a1 a2 a3 a4 b1 b2 b3 b4;have HC:=Hd (hQ.out.callR gQ.out (j0+i) (by have:=gk.out;omega) gj gz.out hS.out gu.out (by have:=gb.out;omega) (by have:=gy.out;omega));obtain⟨⟨a0,a1,a2,a3,a4⟩,b1,b2,b3,b4⟩:=gj.cells;clear gh gj g7 HA HO HZ gm;go_wp2_with fail;refine HC.out.mono ?_;rintro x w14 ⟨p,nx2,rfl,gG,gJ,gg⟩;clear a0 a1 a2 a3 a4 b1 b2 b3 b4;obtain⟨⟨a0,a1,a2,a3,a4⟩,b1,b2,b3,b4⟩:=RkF.cells gg;have g5:Hid (nx1<=nx2/\nx2<=nx1+c/\nx2+90<549755813888):=Hd ⟨gG,gJ,by have:=gb.out;omega⟩;have ho:=Hd (FxS.diff2 HK.out (RkF.keepB (g6.out (j0+i+1))) gg (k1:=p) (k2:=ka) (F1:=Φ (allF Φ Q i)) (F2:=allF Φ Q i) (by simp) (List.mem_append_left _ gu.out) (by have:=g5.out;omega) (ha.out _ (by have:=gy.out;simp;omega)));clear gg HC gG gJ;go_wp2_with fail;refine ho.out.mono ?_;rintro x w15 ⟨rfl,gw⟩;clear a0 a1 a2 a3 a4 b1 b2 b3 b4;obtain⟨⟨a0,a1,a2,a3,a4⟩,b1,b2,b3,b4⟩:=RkF.cells gw;rw[List.append_assoc] at gw;have HD:=Hd (FxS.drop1 HK.out (RkF.keepB (g6.out (j0+i+1))) gz.out gw (by have:=g5.out;omega) rfl);clear gw ho;go_wp2_with fail;refine HD.out.mono ?_;rintro x w16 ⟨rfl,gM⟩;clear a0 a1 a2 a3 a4 b1 b2 b3 b4;obtain⟨⟨a0,a1,a2,a3,a4⟩,b1,b2,b3,b4⟩:=RkF.cells gM;have gr:RkF K n room w0 mb ws0 C o0 wb s (B (j0+i+1)) (X++[(nx2,Zci Φ Q (i+1))]) (nx2+1) (.slice al2 (i+1) cl2) (.slice al2 (i+1) cl2) false 0 (.slice ah (i+1) ch) (.slice ah (i+1) ch) (rs.map Prod.fst++[kr]) hv w16:=gM;obtain⟨b,gK⟩:=Zmq (Zci Φ Q (i+1)=fun _=>false);have hu:=Hd gK;have h4:Hid (∀ q,Calls prog 84 #[.pointer (some ⟨mb,0,none⟩),.int .i64 nx2,.int .i64 0] (w16.drewN q) fun x w'=>x=.returned (.tuple #[.bool b,.int .i64 0])/\w16.drewN q=w'):=Hd fun q=>(gr.below (RkF.keepB (g6.out (j0+i+1))) (Zaf w16 q)).sameB (by simp) (List.mem_append_left _ gz.out.zero) gK
   have ht:Hid (∀ q,Calls prog 90 #[.pointer (some ⟨mb,0,none⟩),.bool false] (w16.drewN q) fun x w'=>x=.returned (.int .i64 0)/\w16.drewN q=w'):=Hd fun q=>Ze6 mb false _
   have hy:=Hd gr;clear gM gr gK HD;go_upto_region 25 with fail
   go_quiet ((first|(with_reducible exact Zbx (h4.out _))|(with_reducible exact Zbx (ht.out _))))
   have g9:Hid (RkF K n room w0 mb ws0 C o0 wb s (B (j0+i+1)) (X++[(nx2,Zci Φ Q (i+1))]) (nx2+1) (.slice al2 (i+1) cl2) (.slice al2 (i+1) cl2) false 0 (.slice ah (i+1) ch) (.slice ah (i+1) ch) (rs.map Prod.fst++[kr]) hv (w16.drewN nq)):=Hd (hy.out.below (RkF.keepB (g6.out (j0+i+1))) (Zaf w16 nq));obtain⟨w17,gE⟩:∃ w,w=w16.drewN nq:=⟨_,rfl⟩;rw[<- gE] at g9 ⊢;clear a0 a1 a2 a3 a4 b1 b2 b3 b4;clear gE h4 ht hy;have gY:=g9.out;obtain⟨⟨a0,a1,a2,a3,a4⟩,b1,b2,b3,b4⟩:=gY.cells;clear gY;cases b with
   | true =>
     have HD:=Hd (FxS.drop1 HK.out (RkF.keepB (g6.out (j0+i+1))) (r:=[]) gz.out g9.out (by have:=g5.out;omega) rfl);clear g9;go_wp2_with fail;refine HD.out.mono ?_;rintro x w18 ⟨rfl,ga⟩;rw[List.append_nil] at ga;clear a0 a1 a2 a3 a4 b1 b2 b3 b4;obtain⟨⟨a0,a1,a2,a3,a4⟩,b1,b2,b3,b4⟩:=RkF.cells ga;have hw:=Hd ga;clear ga HD;go_wp2_with fail;obtain⟨w19,gp⟩:∃ w,w=((w18.setCell ⟨s+1,0,none⟩ (.slice al2 (i+1) cl2)).setCell ⟨s+1+1,0,none⟩ (.bool true)).setCell ⟨s+1+1+1,0,none⟩ (.int .i64 0):=⟨_,rfl⟩;have gi:=RkF.set3 (RkF.set2 (RkF.set1 hw.out HSZ.out.1 HSZ.out.2 (g0.out (j0+i+1)) (.slice al2 (i+1) cl2)) HSZ.out.1 HSZ.out.2 (g0.out (j0+i+1)) true) HSZ.out.1 HSZ.out.2 (g0.out (j0+i+1)) 0;have gL:RkF K n room w0 mb ws0 C o0 wb s (B (j0+i+1)) X (nx2+1) (.slice al2 (i+1) cl2) (.slice al2 (i+1) cl2) true 0 (.slice ah (i+1) ch) (.slice ah (i+1) ch) (rs.map Prod.fst++[kr]) hv w19:=by rw[gp];exact gi
     rw[<- gp];clear gi gp hw;refine leaves_cons (f:=86) (args:=#[.pointer (some ⟨s,0,none⟩),.pointer (some ⟨s+4,0,none⟩),.pointer (some ⟨s+3,0,none⟩),.pointer (some ⟨s+1,0,none⟩),.pointer (some ⟨s+2,0,none⟩)]) (by simp) (by simp[go_sem]) ?_;refine(Zv9 HK.out gQ.out (g6.out (j0+i+1)) gL (by have:=g5.out;omega) (by rw[HI.out.hlen];have:=gk.out;omega) HI.out.nd HI.out.gt HI.out.inX HI.out.fil .returning).mono ?_;rintro e u' w20 ⟨rfl,rfl,ge⟩;obtain⟨⟨q0,q1,q2,q3,q4⟩,_⟩:=RkF.cells ge;have gs:=Hd (HP.out (.returned (.tuple #[.slice al2 (i+1) cl2,.bool true,.int .i64 0])) w20 ⟨i+1,i+1,rs++[(kr,Zci Φ Q i)],nx2+1,_,_,rfl,gA.out,by have:=gb.out;have:=g5.out;omega,by have:=gb.out;have:=g5.out;omega,by rw[List.map_append,HI.out.snd,List.range_succ,List.map_append];rfl,.inr ⟨rfl,i,rfl,rfl,HI.out.rings,hu.out.1 (by simp)⟩,ge.withB fun o m V _ hh=>⟨hh.b,by rw[List.map_append];exact hh.l⟩⟩);clear ge gL a0 a1 a2 a3 a4 b1 b2 b3 b4;simp[Leaves,settle,results,Tryz.results33,go_sem,q1,q2,q3];exact gs.out
   | false =>
     have hH:Hid (Zci Φ Q (i+1)≠fun _=>false):=Hd fun e=>by have:=hu.out.2 e;cases this
     have he:=Hd (FxS.or2 HK.out (RkF.keepB (g6.out (j0+i+1))) g9.out (k1:=ka) (k2:=nx2) (F1:=allF Φ Q i) (F2:=Zci Φ Q (i+1)) (List.mem_append_left _ gu.out) (by simp) (by have:=g5.out;omega) (ha.out _ (by have:=gy.out;simp;omega)) rfl);clear g9;go_wp2_with fail;refine he.out.mono ?_;rintro x w18 ⟨rfl,ga⟩;rw[List.append_assoc] at ga;have gf:RkF K n room w0 mb ws0 C o0 wb s (B (j0+i+1)) (X++[(nx2,Zci Φ Q (i+1)),(nx2+1,allF Φ Q (i+1))]) (nx2+1+1) (.slice al2 (i+1) cl2) (.slice al2 (i+1) cl2) false 0 (.slice ah (i+1) ch) (.slice ah (i+1) ch) (rs.map Prod.fst++[kr]) hv w18:=ga;clear a0 a1 a2 a3 a4 b1 b2 b3 b4;obtain⟨⟨a0,a1,a2,a3,a4⟩,b1,b2,b3,b4⟩:=gf.cells;have HA:Hid (∀ v W',OwnC 3 W' (s+5) v (Za1 hv++[.int .i64 (nx2+1)])->W'.os=w18.os->W'.tape=w18.tape->W'.output=w18.output->w18.heap.size<=W'.heap.size->Zcp (.slice ah (i+1) ch) v w18 W'->RkF K n room w0 mb ws0 C o0 wb s (B (j0+i+1)) (X++[(nx2,Zci Φ Q (i+1)),(nx2+1,allF Φ Q (i+1))]) (nx2+1+1) (.slice al2 (i+1) cl2) (.slice al2 (i+1) cl2) false 0 (.slice ah (i+1) ch) v (rs.map Prod.fst++[kr]) (hv++[nx2+1]) W'):=Hd fun v W' q1 q2 q3 q4 q5 q6=>RkF.appH gf HSZ.out.1 HSZ.out.2 (g0.out (j0+i+1)) q1 q2 q3 q4 q5 q6
     have HO:=Hd gf.ownH;have HZ:=Hd gf.size;have gm:Hid ((Za1 hv).length<1099511627776):=Hd (by have:=gk.out;have:=HI.out.hlen;have:=gA.out;simp[Za1];omega);have hj:=Hd HI.out.hlen;clear ga gf he;go_upto_region 34 with (at_builtin;refine Zb6 Zhp _ rfl _ _ rfl (s+5) _ (Za1 hv) _ rfl rfl rfl rfl rfl (by exact HO.out) (by exact gm.out) (by exact HZ.out) ?_;intro v19 w19 gc g1 g2 g3 g4 gH;obtain⟨ah2,ch2,e19⟩:=Zqv gc;rw[hj.out] at e19;subst e19;clear a0 a1 a2 a3 a4 b1 b2 b3 b4;have gi:=HA.out _ w19 gc g1 g2 g3 g4 gH;clear gc g1 g2 g3 g4 gH;obtain⟨⟨a0,a1,a2,a3,a4⟩,b1,b2,b3,b4⟩:=RkF.cells gi)
     obtain⟨w20,go⟩:∃ w,w=w19.setCell ⟨s+1+1+1+1,0,none⟩ (.slice ah2 (i+1+1) ch2):=⟨_,rfl⟩;have ge:RkF K n room w0 mb ws0 C o0 wb s (B (j0+i+1)) (X++[(nx2,Zci Φ Q (i+1)),(nx2+1,allF Φ Q (i+1))]) (nx2+1+1) (.slice al2 (i+1) cl2) (.slice al2 (i+1) cl2) false 0 (.slice ah2 (i+1+1) ch2) (.slice ah2 (i+1+1) ch2) (rs.map Prod.fst++[kr]) (hv++[nx2+1]) w20:=by rw[go];exact RkF.set4 gi HSZ.out.1 HSZ.out.2 (g0.out (j0+i+1)) _
     rw[<- go];clear a0 a1 a2 a3 a4 b1 b2 b3 b4;have hG:=Hd (HI.out.next HB2.out ge hH.out (by have:=g5.out;omega) (by have:=g5.out;omega));have hA:Hid (Zm6 w20 (s+1)=i+1):=Hd (Zl0 (RkF.cells ge).1.2.1);clear gi ge go HA HO HZ gm hj HI;go_wp2_with fail;go_roundw
     case rel=>exact⟨i+1,nx2+1,nx2,gA.out,rfl,rfl,Hd ⟨_,_,_,_,_,_,hG.out⟩⟩
     case measure =>
      have h1:=hN.out;have h2:=hA.out;have h3:=gA.out;rw[h1,h2];omega
end
open Go.RowKit
theorem Chg.none' {R:Role->Prop}{o o':Own}{w w':World}(h:Chg R o o' w w'){k:Nat}(hk:k<w.heap.size)(ho:o k=none):o' k=none:=(ChgX.of_chg h NoB).none' hk ho
open Go.RowKit
section
variable {P:Program}{S:World->Prop}{Q:Exit->Act->World->Prop}{R:List PanicEntry->World->Prop}
def Nx (_:List Nat)(P:Program)(l:List Oper)(Q:Exit->Act->World->Prop)(R:List PanicEntry->World->Prop)(S:World->Prop)(f:Nat)(L:Array Bool)(a:Act)(w:World):Prop:=Zml P l Q R S l.length f L a w
theorem Zfz (pl:List Nat){id:Nat}{a:Act}{w:World}{l:List Oper}(S:World->Prop)(R:List PanicEntry->World->Prop)(hR:∀ c (a:Act) w,a.defers=[]->R c w->Q (.panic c) a w)(hm:P.follows .mixedOrders=true)(hS:S w.drew)
 (h:Nx pl P l Q R S l.length (Array.replicate l.toArray.size false) a w.drew):(Code.region id l.toArray true).wp P Q a w:=Zdy S R l.length hR hm hS h
theorem Zdt {i:Nat}{pl:List Nat}{l:List Oper}{f:Nat}{L:Array Bool}{a:Act}{w:World}{o:Oper}(hi:l[i]?=some o)(hg:o.guard=none)
 (hB:(Region.noSelect l.toArray&&(Region.ready .any l.toArray L).contains i&&Region.free .any l.toArray L i)=true)
 (h:∃ v,(∀ w,S w->(execOp a.eval o).run P w=.ok (.value v) w)/\Nx pl P l Q R S f (L.setIfInBounds i true) (a.put o.dst v) w):Nx (i::pl) P l Q R S (f+1) L a w :=
 Za4 _ hi hg (by rw[hB];simp) h
theorem Ziu {i:Nat}{pl:List Nat}{l:List Oper}{f:Nat}{L:Array Bool}{a:Act}{w:World}{o:Oper}{g:FuncId}{args:Array Value}{R1:Value->World->Prop}(hi:l[i]?=some o)(hr:decide (Region.ready .any l.toArray L=[i])=true)
 (hg:Region.wanted o (yielded l.toArray a.tmps)=true) (hd:a.defers=[]) (he:(execOp a.eval o).run P w=.ok (.enter g args) w)
 (hc:Calls P g args w fun e w'=>(∃ v,e=.returned v/\S w'/\R1 v w')\/(∃ ch,e=.panicked ch/\R ch w'))
 (h:∀ v w',S w'->R1 v w'->Nx pl P l Q R S f (L.setIfInBounds i true) (a.put o.dst v) w'):Nx (i::pl) P l Q R S (f+1) L a w:=by
 refine Zc6 [i] (by rw[Bool.and_eq_true];exact⟨hr,rfl⟩) fun j g1 hS o2 g0=>?_
 rw[List.mem_singleton] at g1;subst g1;rw[hi] at g0;cases g0;refine⟨hg,?_⟩;refine Zg1 (R:=fun v w'=>S w'/\R1 v w') (R2:=R) he (hc.mono ?_) (fun v w' hh=>⟨hh.1,h v w' hh.1 hh.2⟩) (fun ch w' hh=>⟨hd,hh⟩);rintro e w' (⟨v,h1,h2⟩|hh)
 . exact .inl ⟨v,h1,h2⟩
 . exact .inr hh
theorem Zd7 {i:Nat}{pl:List Nat}{l:List Oper}{f:Nat}{L:Array Bool}{a:Act}{w:World}{o:Oper}{g:FuncId}{args:Array Value}{R1:Value->World->Prop}(hi:l[i]?=some o)(hr:decide (Region.ready .any l.toArray L=[i])=true)
 (hg:Region.wanted o (yielded l.toArray a.tmps)=true) (hd:a.defers=[]) (he:(execOp a.eval o).run P w=.ok (.enter g args) w)
 (hc:Calls P g args w fun e w'=>∃ v,e=.returned v/\R1 v w') (hS:∀ v w',R1 v w'->S w')
 (h:∀ v w',S w'->R1 v w'->Nx pl P l Q R S f (L.setIfInBounds i true) (a.put o.dst v) w'):Nx (i::pl) P l Q R S (f+1) L a w :=
 Ziu hi hr hg hd he (hc.mono fun e w' ⟨v,h1,h2⟩=>.inl ⟨v,h1,hS v w' h2,h2⟩) h
theorem Zks {l:List Oper}{L:Array Bool}{a:Act}{w:World}(hr:(Region.ready .any l.toArray L).isEmpty=true)(h:Q .normal a w):Nx [] P l Q R S 0 L a w:=Zh7 hr h
end
open Go.RowKit
section
variable {d:Zag}{V:Nat->BF}
theorem Zyw {f:Nat}{top least:Int}(h:TopS d [f] top least):(top = -1/\Zab d (f/2)=none)\/∃ b,Zab d (f/2)=some b/\top=(b.v:Nat):=by
 rcases h with ⟨h1,_,h3⟩|⟨v,h1,_,_,⟨e,he,b,hb,hv⟩,_⟩
 . exact .inl ⟨h1,h3 f (by simp)⟩
 . simp only[List.mem_singleton] at he;subst he;exact .inr ⟨b,hb,by rw[h1,hv]⟩
end
open Go.RowKit
def Zd0 (σ:Nat->BF)(F:BF):BF:=fun ρ=>F fun v=>σ v ρ
theorem Zuq (σ:Nat->BF)(F:BF):Zd0 σ (notF F)=notF (Zd0 σ F):=rfl
theorem Zka {d:Zag}{V:Nat->BF}(hk:Zan d V)(σ:Nat->BF){e:Nat}(h:e/2=0):Zd0 σ (ef V e)=ef V e:=by
 rw[Zok hk h];rfl
theorem Zup {V:Nat->BF}(σ:Nat->BF){f lo hi v:Nat}(h:∀ ρ,ef V f ρ=if ρ v then ef V hi ρ else ef V lo ρ):Zd0 σ (ef V f)=Zcf (σ v) (Zd0 σ (ef V hi)) (Zd0 σ (ef V lo)):=by
 funext ρ
 show ef V f (fun v=>σ v ρ)=iteB (σ v ρ) (ef V hi fun v=>σ v ρ) (ef V lo fun v=>σ v ρ)
 rw[h];rfl
theorem Step.write {K:Law}{D:Nat->Prop}{o o':Own}{w w' w'':World}{mb:Nat}{m m':ManD}{V V':Nat->BF}(h:Step K o w mb m V o' w' m' V')(hw:Wr D w' w'')(hD:∀ k,D k->w.heap.size<=k/\o' k=none):Step K o w mb m V o' w'' m' V':=by
 obtain⟨s,hm⟩:=h.is;refine⟨⟨s,hm.keep (fun g r hg=>hw.keep g (h.lt g r hg) (fun e=>?_)) (fun _ _ h=>h)⟩,h.lt.mono hw.size,⟨hw.os.trans h.chg.os,hw.tape.trans h.chg.tape,hw.output.trans h.chg.output,Nat.le_trans h.chg.size hw.size,fun k hk hr=>?_,h.chg.ext,h.chg.new⟩,h.ok,h.ext,h.hs,h.next⟩
 . rw[(hD g e).2] at hg;cases hg
 . refine(hw.keep k (Nat.lt_of_lt_of_le hk h.chg.size) (fun e=>?_)).trans (h.chg.block k hk hr);have:=(hD k e).1;omega
def Zn7 (K:Law)(n:Nat)(σ:Nat->BF)(HP:ManD->(Nat->BF)->Prop)(Bw:World->Prop)(T:Nat->Prop)(g:Nat)(lw:Array Value):Prop :=
 ∀ (o:Own) (W:World) (xb mb:Nat) (m:ManD) (V:Nat->BF) (v:Nat),Zdo (K m.d V) o W mb m->Zaj o W->Zdz o W xb mb->Zan m.d V->m.d.vars.length=n->HP m V->Bw W->(∀ q,T q->q<W.heap.size/\o q=none)->v<n ->
  Calls prog g (#[.pointer (some ⟨xb,0,none⟩),.int .i64 v]++lw) W fun e w' =>
   (∃ (r:Nat) (ok:Bool) (o':Own) (m':ManD) (V':Nat->BF),e=.returned (.tuple #[.int .i64 r,.bool ok])/\AtC K 1 o W mb m V o' w' m' V'/\okE (Zab m'.d) r/\(ok=true->ef V' r=σ v)/\(ok=false->σ v=varF v)) \/
   (∃ er evt ev,e=Zcg er evt ev/\Zn3 K 1 o W mb m V er evt ev w')
structure OvC where
 b6:Nat
 b5:Nat
 kb:Nat
 b3:Nat
 b4:Nat
 xb:Nat
 g:Nat
 lw:Array Value
def OvC.caps (c:OvC):Array Value:=#[.pointer (some ⟨c.b6,0,none⟩),.pointer (some ⟨c.b5,0,none⟩),.pointer (some ⟨c.b3,0,none⟩),.pointer (some ⟨c.b4,0,none⟩)]
structure OvS (K:Law)(n:Nat)(σ:Nat->BF)(HP:ManD->(Nat->BF)->Prop)(Bw:World->Prop)(T:Nat->Prop)(c:OvC)(ob:Own)(wb:World)(mb:Nat)(m0:ManD)(V0:Nat->BF)(k:Nat)(o:Own)(W:World)(m:ManD)(V:Nat->BF):Prop where
 at_:AtC K k ob wb mb m0 V0 o W m V
 vars:m.d.vars.length=n
 ctx:Zdz o W c.xb mb
 hp:HP m V
 bw:Bw W
 f:W.cell? ⟨c.b6,0,none⟩=some (.func (.func 200) #[] c.caps)
 mp:W.cell? ⟨c.b5,0,none⟩=some (.map (some c.kb))
 x:W.cell? ⟨c.b3,0,none⟩=some (.pointer (some ⟨c.xb,0,none⟩))
 w:W.cell? ⟨c.b4,0,none⟩=some (.func (.func c.g) #[] c.lw)
 no:∀ q,(q=c.b6\/q=c.b5\/q=c.kb\/q=c.b3\/q=c.b4\/T q)->o q=none
 t:∀ q,T q->q<W.heap.size
 ne:c.kb≠c.b6/\c.kb≠c.b5/\c.kb≠c.b3/\c.kb≠c.b4/\c.kb≠c.xb/\¬ T c.kb
 new:wb.heap.size<=c.kb
 map:∃ l,Zb9 W c.kb (Value.int .i64) l/\∀ p∈l,∃ e r:Nat,p=((e:Int),.int .i64 r)/\okE (Zab m.d) e/\okE (Zab m.d) r/\ef V r=Zd0 σ (ef V e)
section
variable {K:Law}{n:Nat}{σ:Nat->BF}{HP:ManD->(Nat->BF)->Prop}{Bw:World->Prop}{T:Nat->Prop}{c:OvC}{ob o o':Own}{wb W W':World}{mb:Nat}{m0 m m':ManD}{V0 V V':Nat->BF}{k k2:Nat}
theorem OvS.step (h:OvS K n σ HP Bw T c ob wb mb m0 V0 k o W m V)(hHP:∀ {o o':Own} {w w':World} {m m':ManD} {V V':Nat->BF},Step K o w mb m V o' w' m' V'->HP m V->HP m' V')(hB:∀ W W',Bw W->(∀ q,T q->W'.heap[q]?=W.heap[q]?)->Bw W')
 (s:AtC K k2 o W mb m V o' W' m' V'):OvS K n σ HP Bw T c ob wb mb m0 V0 (k+k2) o' W' m' V':=by
 have g1:∀ q,(q=c.b6\/q=c.b5\/q=c.kb\/q=c.b3\/q=c.b4\/T q)->q<W.heap.size:=by
  obtain⟨l,hl,_⟩:=h.map;rintro q (rfl|rfl|rfl|rfl|rfl|hq)
  . exact Zaa h.f
  . exact Zaa h.mp
  . exact hl.lt
  . exact Zaa h.x
  . exact Zaa h.w
  . exact h.t q hq
 refine⟨h.at_.trans s,s.vars h.vars,h.ctx.chg s.st.chg,hHP s.st h.hp,hB _ _ h.bw (fun q hq=>s.st.chg.alien (h.t q hq) (h.no q (.inr (.inr (.inr (.inr (.inr hq))))))),s.st.chg.cell h.f (h.no _ (.inl rfl)),s.st.chg.cell h.mp (h.no _ (.inr (.inl rfl))),s.st.chg.cell h.x (h.no _ (.inr (.inr (.inr (.inl rfl))))),s.st.chg.cell h.w (h.no _ (.inr (.inr (.inr (.inr (.inl rfl)))))),
  fun q hq=>s.st.chg.none' (g1 q hq) (h.no q hq),fun q hq=>Nat.lt_of_lt_of_le (h.t q hq) s.st.chg.size,h.ne,h.new,?_⟩
 obtain⟨l,hl,g0⟩:=h.map;refine⟨l,hl.keepB (s.st.chg.alien hl.lt (h.no _ (.inr (.inr (.inl rfl))))),fun p hp=>?_⟩;obtain⟨e,r,e1,e2,e3,e4⟩:=g0 p hp;exact⟨e,r,e1,s.st.ext.ok e2,s.st.ext.ok e3,by rw[s.st.ext.ef e3,s.st.ext.ef e2];exact e4⟩
theorem OvS.below (h:OvS K n σ HP Bw T c ob wb mb m0 V0 k o W m V)(hHP:∀ {o o':Own} {w w':World} {m m':ManD} {V V':Nat->BF},Step K o w mb m V o' w' m' V'->HP m V->HP m' V')(hB:∀ W W',Bw W->(∀ q,T q->W'.heap[q]?=W.heap[q]?)->Bw W')
 (hb:Below W.heap.size W W'):OvS K n σ HP Bw T c ob wb mb m0 V0 k o W' m V:=by
 have:=h.step (k2:=0) hHP hB ((AtC.refl h.at_.st.is h.at_.st.lt h.at_.st.ok).below hb);exact this
theorem OvS.put (h:OvS K n σ HP Bw T c ob wb mb m0 V0 k o W m V)(hB:∀ W W',Bw W->(∀ q,T q->W'.heap[q]?=W.heap[q]?)->Bw W'){l:List (Int×Value)}(hl:Zb9 W c.kb (Value.int .i64) l)(hall:∀ p∈l,∃ e r:Nat,p=((e:Int),.int .i64 r)/\okE (Zab m.d) e/\okE (Zab m.d) r/\ef V r=Zd0 σ (ef V e))
 {e r:Nat} (he:okE (Zab m.d) e) (hr:okE (Zab m.d) r) (hef:ef V r=Zd0 σ (ef V e)) (hl':Zb9 W' c.kb (Value.int .i64) (putL (e:Int) (.int .i64 r) l)) (hg:W.grownBy W' (some c.kb)):OvS K n σ HP Bw T c ob wb mb m0 V0 k o W' m V:=by
 have hw:Wr (fun q=>q=c.kb) W W':=Wr.of_grown hg _ (fun q hq=>by cases hq;rfl);obtain⟨n1,n2,n3,n4,n5,n6⟩:=h.ne;have g0:∀ b v,c.kb≠b->W.cell? ⟨b,0,none⟩=some v->W'.cell? ⟨b,0,none⟩=some v:=fun b v g1 hc=>(World.cell?_of_block (w:=W) (a:=⟨b,0,none⟩) (hw.keep b (Zaa hc) (fun e=>g1 e.symm))).trans hc
 refine⟨⟨h.at_.st.write hw (fun q hq=>by subst hq;exact⟨h.new,h.no _ (.inr (.inr (.inl rfl)))⟩),h.at_.waits,h.at_.many⟩,h.vars,⟨g0 _ _ n5 h.ctx.cell,h.ctx.own⟩,h.hp,hB _ _ h.bw (fun q hq=>hw.keep q (h.t q hq) (fun e=>n6 (e ▸ hq))),g0 _ _ n1 h.f,g0 _ _ n2 h.mp,g0 _ _ n3 h.x,g0 _ _ n4 h.w,h.no,fun q hq=>Nat.lt_of_lt_of_le (h.t q hq) hw.size,h.ne,h.new,?_⟩;refine⟨_,hl',fun p hp=>?_⟩;have hg:=Zcx hl'.nodup (k:=p.1) (v:=p.2) hp;rw[Zki hl.nodup] at hg
 by_cases ek:p.1=(e:Int)
 . rw[if_pos ek] at hg;exact⟨e,r,Prod.ext ek (Option.some.inj hg).symm,he,hr,hef⟩
 . rw[if_neg ek] at hg;obtain⟨e',r',q1,q2⟩:=hall _ (Zd5 hg);exact⟨e',r',q1,q2⟩
end
open Go.RowKit
theorem Zfu (args:Array Value)(w:World):(callFunc 200 args).run prog w=.ok (.enter 200 args) w:=enters_of func200 (by kernel_rfl) rfl args w
theorem kEd:Zmk prog 151 (Value.int .i64):=Zo6 underlying151
def OvR (K:Law)(n:Nat)(σ:Nat->BF)(HP:ManD->(Nat->BF)->Prop)(Bw:World->Prop)(T:Nat->Prop)(c:OvC)(ob:Own)(wb:World)(mb:Nat)(m0:ManD)(V0:Nat->BF)(kt k:Nat)(m:ManD)(V:Nat->BF)(e:Nat)(x:Ending)(w':World):Prop :=
 (∃ (r:Nat) (o':Own) (m':ManD) (V':Nat->BF),x=.returned (.int .i64 r)/\OvS K n σ HP Bw T c ob wb mb m0 V0 k o' w' m' V'/\Ext m.d V m'.d V'/\okE (Zab m'.d) r/\ef V' r=Zd0 σ (ef V e))\/(∃ er evt ev,x=Zcg er evt ev/\Zn3 K kt ob wb mb m0 V0 er evt ev w')
def AtOv (K:Law)(n:Nat)(σ:Nat->BF)(HP:ManD->(Nat->BF)->Prop)(Bw:World->Prop)(T:Nat->Prop)(c:OvC)(ob:Own)(wb:World)(mb:Nat)(m0:ManD)(V0:Nat->BF)(kt J:Nat)(ev:Bool):Prop :=
 ∀ (k:Nat) (o:Own) (W:World) (m:ManD) (V:Nat->BF) (e:Nat),OvS K n σ HP Bw T c ob wb mb m0 V0 k o W m V->okE (Zab m.d) e->(ev=true->eneg e=false)->n<=lvE n (levN m.d) (Zab m.d) e+J->k+(2^J-1)*(2^n+1)<=kt ->
  Calls prog 200 (#[.int .i64 e]++c.caps) W (OvR K n σ HP Bw T c ob wb mb m0 V0 kt (k+(2^J-1)*(2^n+1)) m V e)
section
variable {K:Law}{n:Nat}{σ:Nat->BF}{HP:ManD->(Nat->BF)->Prop}{Bw:World->Prop}{T:Nat->Prop}{c:OvC}{ob o o':Own}{wb W W':World}{mb:Nat}{m0 m m':ManD}{V0 V V':Nat->BF}{k k2 kt J:Nat}
theorem OvS.mono (h:OvS K n σ HP Bw T c ob wb mb m0 V0 k o W m V)(hk:k<=k2):OvS K n σ HP Bw T c ob wb mb m0 V0 k2 o W m V:={ h with at_:=h.at_.mono hk }
theorem Ya2 (J n:Nat):(2^J-1)*(2^n+1)+(2^J-1)*(2^n+1)+(1+1+(2^n-1))=(2^(J+1)-1)*(2^n+1):=by
 have h1:0<2^J:=Nat.pow_pos (by omega);have h2:0<2^n:=Nat.pow_pos (by omega);have h3:2^(J+1)-1=(2^J-1)+(2^J-1)+1:=by rw[Nat.pow_succ];omega
 rw[h3,Nat.add_mul,Nat.add_mul,Nat.one_mul];omega
theorem Zv1 (hK:Zbh K)(hHP:∀ {o o':Own} {w w':World} {m m':ManD} {V V':Nat->BF},Step K o w mb m V o' w' m' V'->HP m V->HP m' V')(hB:∀ W W',Bw W->(∀ q,T q->W'.heap[q]?=W.heap[q]?)->Bw W')(hw:Zn7 K n σ HP Bw T c.g c.lw)(eg:∀ args w,(callFunc c.g args).run prog w=.ok (.enter c.g args) w)
 (IH:AtOv K n σ HP Bw T c ob wb mb m0 V0 kt J false):AtOv K n σ HP Bw T c ob wb mb m0 V0 kt (J+1) true:=by
 intro k o W m V e hs he g8 gv gI;have g8:=g8 rfl;obtain⟨b6,b5,kb,b3,b4,xb,g,lw⟩:=c;have hk:=hs.at_.st.ok;obtain⟨N1,gf⟩:∃ N1,N1=(2^J-1)*(2^n+1):=⟨_,rfl⟩;have gb:=Ya2 J n;rw[<- gf] at gb;obtain⟨P,hP⟩:∃ P:Ending->World->Prop,P=OvR K n σ HP Bw T ⟨b6,b5,kb,b3,b4,xb,g,lw⟩ ob wb mb m0 V0 kt (k+(2^(J+1)-1)*(2^n+1)) m V e:=⟨_,rfl⟩;have he_lt:=Zgv hs.at_.st.is he;have g1:=Hd (Zh1 e W he_lt);have g7:=Hd (Zhs e W he_lt);rw[g8] at g7
 by_cases h0:e/2=0
 .
  have HF:Hid (P (.returned (.int .i64 (e:Nat))) W):=Hd (by
   rw[hP];exact .inl ⟨e,o,m,V,rfl,hs.mono (by omega),Ext.refl _ _,he,by rw[Zka hk σ h0]⟩)
  rw[decide_eq_true (show enode e=0 from h0)] at g1;unfold OvC.caps;rw[<- hP];clear hP hs hk hK hHP hB hw IH g7 g8
  show Calls _ _ #[_,_,_,_,_] _ _
  go_enter func200,ntmps200
  go_wp2_with fail;refine g1.out.mono ?_;rintro y w' ⟨rfl,rfl⟩;go_wp2_with fail;exact HF.out
 rw[decide_eq_false (show ¬ enode e=0 from h0)] at g1;obtain⟨b,hb⟩:∃ b,Zab m.d (e/2)=some b:=by
  rcases he with h|h
  . exact absurd h h0
  . exact h
 have go:b.v<n:=by rw[<- hs.vars];exact hk.dag.var _ _ hb
 have gu:lvE n (levN m.d) (Zab m.d) e=levN m.d b.v:=by unfold lvE;rw[hb]
 obtain⟨q1,q2,q3,q4,q5⟩:=Zfe (V:=V) hk he (by rw[hs.vars];exact go) (by rw[hs.vars,gu];exact Nat.le_refl _);rw[hs.vars] at q3 q4;obtain⟨lo,gp⟩:∃ lo,lo=(cofs m.d e b.v).1:=⟨_,rfl⟩;obtain⟨hi,gq⟩:∃ hi,hi=(cofs m.d e b.v).2:=⟨_,rfl⟩;rw[<- gp] at q1 q3 q5;rw[<- gq] at q2 q4 q5;obtain⟨v,hv⟩:∃ v,v=b.v:=⟨_,rfl⟩;rw[<- hv] at q3 q4 q5 go gu gp gq;have hn:=Hd (Zup σ q5);obtain⟨l,hl,gc⟩:=hs.map;have gU:=Hd gc;have gj:Hid (∀ {o o':Own} {w w':World} {m m':ManD} {V V':Nat->BF},Step K o w mb m V o' w' m' V'->HP m V->HP m' V'):=Hd hHP;have ga:=Hd hB;have ge:=hl.lookup kEd underlying259 Zn2 (e:Int) true;have cm:=hs.mp;have cx:=hs.x;have cf:=hs.f;unfold OvC.caps at cf ⊢
 show Calls _ _ #[_,_,_,_,_] _ _
 rw[<- hP];have gt:=Hd hP;have HS:=Hd hs;have gF:=Hd IH;cases hg:getL l (e:Int) with
 | some u =>
   obtain⟨e',r,ee,h1,h2,h3⟩:=gc _ (Zd5 hg);simp only[Prod.mk.injEq] at ee;obtain⟨ee,rfl⟩:=ee;obtain rfl:e=e':=by omega
   rw[hg] at ge;simp only[if_true,Option.getD_some,Option.isSome_some] at ge
   have HF:Hid (P (.returned (.int .i64 (r:Nat))) W):=Hd (by
    rw[gt.out];exact .inl ⟨r,o,m,V,rfl,HS.out.mono (by omega),Ext.refl _ _,h2,h3⟩)
   clear hP hs hk hK hHP hB hw IH gF gc hl h1 h2 h3 hg g8 gb gf gI gv
   go_enter func200,ntmps200
   go_wp2_with fail;refine g1.out.mono ?_;rintro y w' ⟨rfl,rfl⟩;go_wp2_with fail;refine g7.out.mono ?_;rintro y w' ⟨rfl,rfl⟩;go_wp2_with fail;exact HF.out
 | none =>
   rw[hg] at ge;simp only[if_true,Option.getD_none,Option.isSome_none] at ge;obtain⟨w1,gn⟩:∃ w1,w1=W.alloc (.cells #[.int .i64 (e:Nat)] 151):=⟨_,rfl⟩;have HW1:Hid (_=w1):=Hd gn.symm;have gK:Below W.heap.size W w1:=by rw[gn];exact Zad _ _
   have gw:w1.heap[W.heap.size]?=some (.cells #[.int .i64 (e:Nat)] 151 (0,0)):=by rw[gn];exact heap_alloc_new _ _
   have g9:=Hd (hs.below hHP hB gK)
   have gz:Hid (Calls prog 164 #[.pointer (some ⟨xb,0,none⟩),.slice (some ⟨W.heap.size,0,none⟩) 1 1] w1 fun x w'=>x=.returned (.int .i64 v)/\Below w1.heap.size w1 w'):=Hd ((Zlv g9.out.at_.st.is g9.out.at_.st.lt g9.out.ctx g9.out.at_.st.ok [e] (by simpa using he) (some ⟨W.heap.size,0,none⟩) 1 ⟨by simp,fun q hq=>⟨W.heap.size,0,rfl,by
    obtain rfl:q=0:=by simp at hq;omega
    exact cell1 gw⟩⟩).mono (by
    rintro x w' ⟨top,least,rfl,ht,gr⟩;rcases Zyw ht with ⟨_,h⟩|⟨b',h,rfl⟩
    . rw[hb] at h;cases h
    .
     rw[hb] at h;cases h
     exact⟨by rw[hv],gr⟩))
   have hh:=Hd gp;have hm:=Hd gq;have gi:Hid (k+N1+N1+(1+1+(2^n-1))<=kt/\k+N1+N1+(1+1+(2^n-1))=k+(2^(J+1)-1)*(2^n+1)):=Hd ⟨by omega,by omega⟩
   have gk:Hid (∀ (k':Nat) (o1:Own) (w':World) (m1:ManD) (V1:Nat->BF) (f:Nat),OvS K n σ HP Bw T ⟨b6,b5,kb,b3,b4,xb,g,lw⟩ ob wb mb m0 V0 k' o1 w' m1 V1->Ext m.d V m1.d V1->okE (Zab m.d) f->levN m.d v<lvE n (levN m.d) (Zab m.d) f->k'+N1<=k+N1+N1->Calls prog 200 #[.int .i64 f,.pointer (some ⟨b6,0,none⟩),.pointer (some ⟨b5,0,none⟩),.pointer (some ⟨b3,0,none⟩),.pointer (some ⟨b4,0,none⟩)] w' fun e w' =>
    (∃ u,e=.returned u/\w'.cell? ⟨b6,0,none⟩=some (.func (.func 200) #[] #[.pointer (some ⟨b6,0,none⟩),.pointer (some ⟨b5,0,none⟩),.pointer (some ⟨b3,0,none⟩),.pointer (some ⟨b4,0,none⟩)])/\∃ r1:Nat,u=.int .i64 r1/\∃ (o2:Own) (m2:ManD) (V2:Nat->BF),OvS K n σ HP Bw T ⟨b6,b5,kb,b3,b4,xb,g,lw⟩ ob wb mb m0 V0 (k'+N1) o2 w' m2 V2/\Ext m.d V m2.d V2/\Ext m1.d V1 m2.d V2/\okE (Zab m2.d) r1/\ef V2 r1=Zd0 σ (ef V f))\/(∃ ch,e=.panicked ch/\P (.panicked ch) w')):=by
    refine Hd fun k' o1 w' m1 V1 f h1 hx hf hl ho=>?_
    have gV:lvE n (levN m1.d) (Zab m1.d) f=lvE n (levN m.d) (Zab m.d) f:=by
     exact hx.lvE hf hk.dag.none0 h1.at_.st.ok.dag.none0
    have:=gF.out k' o1 w' m1 V1 f h1 (hx.ok hf) (fun h=>by cases h) (by rw[gV];omega) (by rw[<- gf];have:=gi.out;omega);rw[<- gf] at this;refine this.mono ?_;rintro x w2 (⟨r,o2,m2,V2,rfl,p1,p2,p3,p4⟩|⟨er,evt,ev,rfl,g3⟩)
    . exact .inl ⟨_,rfl,p1.f,r,rfl,o2,m2,V2,p1,hx.trans p2,p2,p3,by rw[p4,hx.ef hf]⟩
    . refine .inr ⟨_,rfl,?_⟩;rw[gt.out];exact .inr ⟨er,evt,ev,rfl,g3⟩
   have gl:Hid (∀ er evt ev w',Zn3 K kt ob wb mb m0 V0 er evt ev w'->P (Zcg er evt ev) w'):=Hd fun er evt ev w' h=>by rw[gt.out];exact .inr ⟨er,evt,ev,rfl,h⟩
   have gs:=Hd hw;have HKK:=Hd hK;have hc:=Hd q1;have ha:=Hd q2;have h9:=Hd q3;have h8:=Hd q4;have HE:=Hd he;have gM:=Hd go;clear hP hs hk hK hHP hB hw IH gF gc hl hg g8 gb gI gv gn gw gK gU q1 q2 q3 q4 q5 hb gu gp gq hv he go gf h0 he_lt
   go_enter func200,ntmps200
   go_wp2_with fail;refine g1.out.mono ?_;rintro y w' ⟨rfl,rfl⟩;go_wp2_with fail;refine g7.out.mono ?_;rintro y w' ⟨rfl,rfl⟩;go_wp2_with fail;rw[HW1.out];refine gz.out.mono ?_;rintro y w2 ⟨rfl,gr⟩;have g6:=Hd (g9.out.below gj.out ga.out gr);have cx2:=g6.out.x
   have gA:Hid (Calls prog 165 #[.pointer (some ⟨xb,0,none⟩),.int .i64 e,.int .i64 v] w2 fun x w'=>x=.returned (.tuple #[.int .i64 lo,.int .i64 hi])/\Below w2.heap.size w2 w'):=Hd ((Zi6 g6.out.at_.st.is g6.out.at_.st.lt g6.out.ctx g6.out.at_.st.ok e HE.out v).mono (by
    rintro x w' ⟨rfl,h⟩;exact⟨by rw[hh.out,hm.out],h⟩))
   clear gr ge cm cx cf g1 g7 gz HW1 g9;go_wp2_with fail;refine gA.out.mono ?_;rintro y w3 ⟨rfl,gx⟩;have gP:=Hd (g6.out.below gj.out ga.out (gx.trans ((Zaf w3 1).mono gx.size)));have cf3:w3.drew.cell? ⟨b6,0,none⟩=some (.func (.func 200) #[] #[.pointer (some ⟨b6,0,none⟩),.pointer (some ⟨b5,0,none⟩),.pointer (some ⟨b3,0,none⟩),.pointer (some ⟨b4,0,none⟩)]):=gP.out.f;have HL:=Hd (gk.out k o w3.drew m V lo gP.out (Ext.refl _ _) hc.out h9.out (by omega));have eg1:=Zfu;clear gx gA g6 cx2;go_upto_region 10 with fail;refine Zfz [0,1,3,4,2,5,6,7] (fun W=>W.cell? ⟨b6,0,none⟩=some (.func (.func 200) #[] #[.pointer (some ⟨b6,0,none⟩),.pointer (some ⟨b5,0,none⟩),.pointer (some ⟨b3,0,none⟩),.pointer (some ⟨b4,0,none⟩)])) (fun ch w'=>P (.panicked ch) w') (fun c a w hd h=>⟨hd,h⟩) (by kernel_rfl) cf3 ?_
   iterate 4
    refine Zdt rfl rfl (by kernel_rfl) ?_;apply Exists.intro;refine⟨fun w' hw=>?_,?_⟩
    . have q1:w'.cell? ⟨b6,0,none⟩=some (.func (.func 200) #[] #[.pointer (some ⟨b6,0,none⟩),.pointer (some ⟨b5,0,none⟩),.pointer (some ⟨b3,0,none⟩),.pointer (some ⟨b4,0,none⟩)]):=hw;go_simp;rfl
    simp only[Zah]
   refine Ziu rfl (by kernel_rfl) rfl rfl (by go_simp) HL.out ?_;rintro u w4 gY ⟨r1,rfl,o4,m4,V4,s4,x4,x4',k4,f4⟩;have h7:=Hd s4;have h4:=Hd x4;have gC:=Hd k4;have gR:=Hd f4;have HH:=Hd (gk.out (k+N1) o4 w4 m4 V4 hi s4 x4 ha.out h8.out (by omega));clear s4 x4 x4' k4 f4 HL gY;simp only[Zah];refine Ziu rfl (by kernel_rfl) rfl rfl (by go_simp) HH.out ?_;rintro u w5 gX ⟨r2,rfl,o5,m5,V5,s5,x5,x5',k5,f5⟩;have gO:=Hd s5;have gL:=Hd x5;have gB:=Hd k5;have gQ:=Hd f5;have gm:=Hd (x5'.ok gC.out);have gG:Hid (ef V5 r1=Zd0 σ (ef V lo)):=Hd ((x5'.ef gC.out).trans gR.out)
   have gy:Hid (Calls prog g (#[.pointer (some ⟨xb,0,none⟩),.int .i64 v]++lw) w5 fun e w'=>(∃ (r:Nat) (ok:Bool) (o':Own) (m':ManD) (V':Nat->BF),e=.returned (.tuple #[.int .i64 r,.bool ok])/\AtC K 1 o5 w5 mb m5 V5 o' w' m' V'/\okE (Zab m'.d) r/\(ok=true->ef V' r=σ v)/\(ok=false->σ v=varF v))\/(∃ er evt ev,e=Zcg er evt ev/\P (Zcg er evt ev) w')):=Hd ((gs.out o5 w5 xb mb m5 V5 v s5.at_.st.is s5.at_.st.lt s5.ctx s5.at_.st.ok s5.vars s5.hp s5.bw (fun q hq=>⟨s5.t q hq,s5.no q (.inr (.inr (.inr (.inr (.inr hq)))))⟩) gM.out).mono (by
    rintro e w' (h|⟨er,evt,ev,rfl,g3⟩)
    . exact .inl h
    . exact .inr ⟨er,evt,ev,rfl,gl.out _ _ _ _ (g3.after s5.at_ (by have:=gi.out;omega))⟩))
   have cw5:=s5.w;have cx5:=s5.x;clear s5 x5 x5' k5 f5 HH gX h7 gC gR h4 cf3;simp only[Zah]
   iterate 2
    refine Zdt rfl rfl (by kernel_rfl) ?_;apply Exists.intro;refine⟨fun w' hw=>?_,?_⟩
    . go_simp;rfl
    simp only[Zah]
   refine Zks (by kernel_rfl) ?_;go_wp2_with fail;refine gy.out.mono ?_;rintro y w6 (⟨r3,ok,o6,m6,V6,rfl,a6,k6,t6,u6⟩|⟨er,evt,ev,rfl,hp⟩)
   .
    have g0:Hid (OvS K n σ HP Bw T ⟨b6,b5,kb,b3,b4,xb,g,lw⟩ ob wb mb m0 V0 (k+N1+N1+1) o6 w6 m6 V6):=Hd (gO.out.step gj.out ga.out a6);have gZ:=Hd (gL.out.trans a6.st.ext);have gE:=Hd (a6.st.ext.ok gm.out);have gD:=Hd (a6.st.ext.ok gB.out);have gT:Hid (ef V6 r1=Zd0 σ (ef V lo)):=Hd ((a6.st.ext.ef gm.out).trans gG.out);have gS:Hid (ef V6 r2=Zd0 σ (ef V hi)):=Hd ((a6.st.ext.ef gB.out).trans gQ.out);have hj:=Hd k6;have h6:=Hd t6;have h5:=Hd u6
    have gd:Hid (∀ (o7:Own) (w7:World) (m7:ManD) (V7:Nat->BF) (r4:Nat),OvS K n σ HP Bw T ⟨b6,b5,kb,b3,b4,xb,g,lw⟩ ob wb mb m0 V0 (k+N1+N1+(1+1)) o7 w7 m7 V7->Ext m6.d V6 m7.d V7->okE (Zab m7.d) r4->ef V7 r4=σ v->Calls prog 141 #[.pointer (some ⟨xb,0,none⟩),.int .i64 r4,.int .i64 r2,.int .i64 r1] w7 fun e' w' =>
     (∃ (r:Nat) (l8:List (Int×Value)),e'=.returned (.int .i64 r)/\w'.cell? ⟨b5,0,none⟩=some (.map (some kb))/\Zb9 w' kb (Value.int .i64) l8/\(∀ w9,Zb9 w9 kb (Value.int .i64) (putL (e:Int) (.int .i64 r) l8)->w'.grownBy w9 (some kb)->P (.returned (.int .i64 r)) w9))\/(∃ er evt ev,e'=Zcg er evt ev/\P (Zcg er evt ev) w')):=by
     refine Hd fun o7 w7 m7 V7 r4 s7 x7 k7 f7=>?_
     refine(Zjp HKK.out s7.at_.st.is s7.at_.st.lt s7.ctx s7.at_.st.ok s7.vars r4 r2 r1 k7 (x7.ok gD.out) (x7.ok gE.out)).mono ?_;rintro e' w' (⟨r,o8,m8,V8,rfl,p1,p2,p3⟩|⟨er,evt,ev,rfl,g3⟩)
     .
      have s8:=s7.step gj.out ga.out p1;obtain⟨l8,g2,gH⟩:=s8.map;refine .inl ⟨r,l8,rfl,s8.mp,g2,fun w9 g4 g5=>?_⟩;have x8:=(gZ.out.trans x7).trans p1.st.ext;have gJ:ef V8 r=Zd0 σ (ef V8 e):=by
       rw[x8.ef HE.out,hn.out,p3,f7,x7.ef gD.out,x7.ef gE.out,gT.out,gS.out]
      rw[gt.out];refine .inl ⟨r,o8,m8,V8,rfl,?_,x8,p2,by rw[gJ,x8.ef HE.out]⟩;rw[<- gi.out.2];have:=s8.put ga.out g2 gH (x8.ok HE.out) p2 gJ g4 g5;rw[Nat.add_assoc (k+N1+N1)] at this;exact this
     . exact .inr ⟨er,evt,ev,rfl,gl.out _ _ _ _ (g3.after s7.at_ (by have:=gi.out;omega))⟩
    have cx6:=g0.out.x;clear a6 k6 t6 u6 gy cw5 cx5 gO gL gm gB gG gQ gk gs;cases ok with
    | true =>
      have HI:=Hd (gd.out o6 w6 m6 V6 r3 (g0.out.mono (by omega)) (Ext.refl _ _) hj.out (h6.out rfl));clear gd HKK;go_wp2_with fail;refine HI.out.mono ?_;rintro y w8 (⟨r,l8,rfl,cm8,g2,hp⟩|⟨er,evt,ev,rfl,hp⟩)
      . have gh:=Hd g2;have gg:=Hd hp;clear g2 hp HI cx6;go_wp2_with (refine Zda (l:=l8) rfl _ _ _ rfl kEd underlying259 (e:Int) (.int .i64 (r:Nat)) rfl rfl rfl gh.out ?_;intro w9 g4 g5);have HF:=Hd (gg.out w9 g4 g5);clear g4 g5 gg gh cm8;go_wp2_with fail;exact HF.out
      . have HF:=Hd hp;clear hp HI;unfold Zcg;go_wp2_with fail;exact⟨rfl,HF.out⟩
    | false =>
      have gN:=Zrf HKK.out g0.out.at_.st.is g0.out.at_.st.lt g0.out.ctx g0.out.at_.st.ok v (by rw[g0.out.vars];exact gM.out)
      have HV:Hid (Calls prog 139 #[.pointer (some ⟨xb,0,none⟩),.int .i64 v,.int .i64 1,.int .i64 0] w6 fun e' w7=>(∃ (r4:Nat) (o7:Own) (m7:ManD) (V7:Nat->BF),e'=.returned (.int .i64 r4)/\OvS K n σ HP Bw T ⟨b6,b5,kb,b3,b4,xb,g,lw⟩ ob wb mb m0 V0 (k+N1+N1+(1+1)) o7 w7 m7 V7/\Ext m6.d V6 m7.d V7/\okE (Zab m7.d) r4/\ef V7 r4=σ v)\/(∃ er evt ev,e'=Zcg er evt ev/\P (Zcg er evt ev) w7)):=Hd (gN.mono (by
       rintro e' w7 (⟨r4,o7,m7,V7,rfl,p1,p2,p3⟩|⟨er,evt,ev,rfl,g3⟩)
       . refine .inl ⟨r4,o7,m7,V7,rfl,?_,p1.st.ext,p2,by rw[h5.out rfl];exact p3⟩;have:=g0.out.step gj.out ga.out p1;rw[Nat.add_assoc (k+N1+N1)] at this;exact this
       . exact .inr ⟨er,evt,ev,rfl,gl.out _ _ _ _ (g3.after g0.out.at_ (by have:=gi.out;omega))⟩))
      clear gN HKK;go_wp2_with fail;refine HV.out.mono ?_;rintro y w7 (⟨r4,o7,m7,V7,rfl,s7,x7,k7,f7⟩|⟨er,evt,ev,rfl,hp⟩)
      .
       have HI:=Hd (gd.out o7 w7 m7 V7 r4 s7 x7 k7 f7);have cx7:=s7.x;clear s7 x7 k7 f7 gd HV cx6;go_wp2_with fail;refine HI.out.mono ?_;rintro y w8 (⟨r,l8,rfl,cm8,g2,hp⟩|⟨er,evt,ev,rfl,hp⟩)
       . have gh:=Hd g2;have gg:=Hd hp;clear g2 hp HI cx7;go_wp2_with (refine Zda (l:=l8) rfl _ _ _ rfl kEd underlying259 (e:Int) (.int .i64 (r:Nat)) rfl rfl rfl gh.out ?_;intro w9 g4 g5);have HF:=Hd (gg.out w9 g4 g5);clear g4 g5 gg gh cm8;go_wp2_with fail;exact HF.out
       . have HF:=Hd hp;clear hp HI;unfold Zcg;go_wp2_with fail;exact⟨rfl,HF.out⟩
      . have HF:=Hd hp;clear hp HV;unfold Zcg;go_wp2_with fail;exact⟨rfl,HF.out⟩
   . have HF:=Hd hp;clear hp gy;unfold Zcg;go_wp2_with fail;exact⟨rfl,HF.out⟩
end
open Go.RowKit
theorem Zoq (args:Array Value)(w:World):(callFunc 199 args).run prog w=.ok (.enter 199 args) w:=enters_of func199 (by kernel_rfl) rfl args w
section
variable {K:Law}{n:Nat}{σ:Nat->BF}{HP:ManD->(Nat->BF)->Prop}{Bw:World->Prop}{T:Nat->Prop}{c:OvC}{ob o o':Own}{wb w W W':World}{mb:Nat}{m0 m m':ManD}{V0 V V':Nat->BF}{k k2 kt J:Nat}
theorem Zuy (e:Nat)(h:eneg e=true):eneg (enot e)=false:=by
 unfold eneg at h ⊢;rw[beq_iff_eq] at h;rw[Zjr,h];rfl
theorem Zl6 (hs:OvS K n σ HP Bw T c ob wb mb m0 V0 k o W m V){e:Nat}(he:okE (Zab m.d) e)(h0:e/2=0)(hk2:k<=k2):Calls prog 200 (#[.int .i64 e]++c.caps) W (OvR K n σ HP Bw T c ob wb mb m0 V0 kt k2 m V e):=by
 obtain⟨b6,b5,kb,b3,b4,xb,g,lw⟩:=c;have hk:=hs.at_.st.ok;have g0:=Hd (Zh1 e W (Zgv hs.at_.st.is he));rw[decide_eq_true (show enode e=0 from h0)] at g0;obtain⟨P,hP⟩:∃ P:Ending->World->Prop,P=OvR K n σ HP Bw T ⟨b6,b5,kb,b3,b4,xb,g,lw⟩ ob wb mb m0 V0 kt k2 m V e:=⟨_,rfl⟩
 have HF:Hid (P (.returned (.int .i64 (e:Nat))) W):=Hd (by
  rw[hP];exact .inl ⟨e,o,m,V,rfl,hs.mono hk2,Ext.refl _ _,he,by rw[Zka hk σ h0]⟩)
 unfold OvC.caps;rw[<- hP];clear hP hs hk
 show Calls _ _ #[_,_,_,_,_] _ _
 go_enter func200,ntmps200
 go_wp2_with fail;refine g0.out.mono ?_;rintro y w' ⟨rfl,rfl⟩;go_wp2_with fail;exact HF.out
theorem Zx7 (IH:AtOv K n σ HP Bw T c ob wb mb m0 V0 kt J true)(hHP:∀ {o o':Own} {w w':World} {m m':ManD} {V V':Nat->BF},Step K o w mb m V o' w' m' V'->HP m V->HP m' V')(hB:∀ W W',Bw W->(∀ q,T q->W'.heap[q]?=W.heap[q]?)->Bw W'):AtOv K n σ HP Bw T c ob wb mb m0 V0 kt J false:=by
 intro k o W m V e hs he _ g1 g3
 by_cases h0:e/2=0
 . exact Zl6 hs he h0 (by omega)
 cases g0:eneg e with
 | false=>exact IH k o W m V e hs he (fun _=>g0) g1 g3
 | true =>
   obtain⟨b6,b5,kb,b3,b4,xb,g,lw⟩:=c;have he_lt:=Zgv hs.at_.st.is he;have g7:=Hd (Zh1 e W he_lt);have g6:=Hd (Zhs e W he_lt);rw[g0] at g6;rw[decide_eq_false (show ¬ enode e=0 from h0)] at g7;have g9:=hs.below hHP hB (Zaf W 1);have gb:okE (Zab m.d) (enot e):=Zie he;have g8:enot e/2=e/2:=Zfj e;obtain⟨N1,g4⟩:∃ N1,N1=(2^J-1)*(2^n+1):=⟨_,rfl⟩;have g2:=IH k o W.drew m V (enot e) g9 gb (fun _=>Zuy e g0) (by unfold lvE at g1 ⊢;rw[g8];exact g1) g3;rw[<- g4] at g2;obtain⟨P,hP⟩:∃ P:Ending->World->Prop,P=OvR K n σ HP Bw T ⟨b6,b5,kb,b3,b4,xb,g,lw⟩ ob wb mb m0 V0 kt (k+(2^J-1)*(2^n+1)) m V e:=⟨_,rfl⟩;have gd:=Hd (Zht e W.drew he_lt)
   have g5:Hid (Calls prog 200 #[.int .i64 (enot e:Nat),.pointer (some ⟨b6,0,none⟩),.pointer (some ⟨b5,0,none⟩),.pointer (some ⟨b3,0,none⟩),.pointer (some ⟨b4,0,none⟩)] W.drew fun x w'=>(∃ u,x=.returned u/\w'.cell? ⟨b6,0,none⟩=some (.func (.func 200) #[] #[.pointer (some ⟨b6,0,none⟩),.pointer (some ⟨b5,0,none⟩),.pointer (some ⟨b3,0,none⟩),.pointer (some ⟨b4,0,none⟩)])/\∃ r:Nat,u=.int .i64 r/\(Calls prog 108 #[.int .i64 r] w' fun x w2=>x=.returned (.int .i64 (enot r:Nat))/\w'=w2)/\P (.returned (.int .i64 (enot r:Nat))) w')\/(∃ ch,x=.panicked ch/\P (.panicked ch) w')):=Hd (g2.mono (by
    rintro x w' (⟨r,o2,m2,V2,rfl,p1,p2,p3,p4⟩|⟨er,evt,ev,rfl,ga⟩)
    .
     refine .inl ⟨_,rfl,p1.f,r,rfl,Zht r w' (Zgv p1.at_.st.is p3),?_⟩;rw[hP];refine .inl ⟨enot r,o2,m2,V2,rfl,by rw[<- g4];exact p1,p2,Zie p3,?_⟩;rw[Zmu,p4,Zmu,Zuq];funext ρ
     show (!(!Zd0 σ (ef V e) ρ))=_
     simp
    . refine .inr ⟨_,rfl,?_⟩;rw[hP];exact .inr ⟨er,evt,ev,rfl,ga⟩))
   have cf:=hs.f;unfold OvC.caps at cf ⊢;rw[<- hP];have eg1:=Zfu;clear hP hs g2 g9 IH hHP hB g0 g4 g1 g3
   show Calls _ _ #[_,_,_,_,_] _ _
   go_enter func200,ntmps200
   go_wp2_with fail;refine g7.out.mono ?_;rintro y w' ⟨rfl,rfl⟩;go_wp2_with fail;refine g6.out.mono ?_;rintro y w' ⟨rfl,rfl⟩;go_upto_region 4 with fail;have cfd:W.drew.cell? ⟨b6,0,none⟩=some (.func (.func 200) #[] #[.pointer (some ⟨b6,0,none⟩),.pointer (some ⟨b5,0,none⟩),.pointer (some ⟨b3,0,none⟩),.pointer (some ⟨b4,0,none⟩)]):=cf;refine Zfz [0,1,2,3,4,5] (fun W'=>W'.cell? ⟨b6,0,none⟩=some (.func (.func 200) #[] #[.pointer (some ⟨b6,0,none⟩),.pointer (some ⟨b5,0,none⟩),.pointer (some ⟨b3,0,none⟩),.pointer (some ⟨b4,0,none⟩)])) (fun ch w'=>P (.panicked ch) w') (fun c a w hd h=>⟨hd,h⟩) (by kernel_rfl) cfd ?_
   iterate 2
    refine Zdt rfl rfl (by kernel_rfl) ?_;apply Exists.intro;refine⟨fun w' hw=>?_,?_⟩
    . have q1:w'.cell? ⟨b6,0,none⟩=some (.func (.func 200) #[] #[.pointer (some ⟨b6,0,none⟩),.pointer (some ⟨b5,0,none⟩),.pointer (some ⟨b3,0,none⟩),.pointer (some ⟨b4,0,none⟩)]):=hw;go_simp;rfl
    simp only[Zah]
   refine Zd7 (R1:=fun u w'=>u=.int .i64 (enot e:Nat)/\W.drew=w') rfl (by kernel_rfl) rfl rfl (by go_simp) (gd.out.mono fun x w' h=>⟨_,h.1,rfl,h.2⟩) (by rintro u w' ⟨_,rfl⟩;exact cfd) ?_;rintro u w'-⟨rfl,rfl⟩;simp only[Zah];refine Ziu rfl (by kernel_rfl) rfl rfl (by go_simp) g5.out ?_;rintro u w2 hS ⟨r,rfl,hn,hp⟩;have HF:=Hd hp;have gc:=Hd hn;have HS:=Hd hS;clear hn hp hS g5 cfd cf;simp only[Zah];refine Zd7 (R1:=fun u w'=>u=.int .i64 (enot r:Nat)/\w2=w') rfl (by kernel_rfl) rfl rfl (by go_simp) (gc.out.mono fun x w' h=>⟨_,h.1,rfl,h.2⟩) (by rintro u w' ⟨_,rfl⟩;exact HS.out) ?_;rintro u w'-⟨rfl,rfl⟩;simp only[Zah];refine Zdt rfl rfl (by kernel_rfl) ?_;apply Exists.intro;refine⟨fun w' hw=>?_,?_⟩
   . go_simp;rfl
   simp only[Zah];refine Zks (by kernel_rfl) ?_;go_wp2_with fail;exact HF.out
theorem Zv0 (hK:Zbh K)(hHP:∀ {o o':Own} {w w':World} {m m':ManD} {V V':Nat->BF},Step K o w mb m V o' w' m' V'->HP m V->HP m' V')(hB:∀ W W',Bw W->(∀ q,T q->W'.heap[q]?=W.heap[q]?)->Bw W')(hw:Zn7 K n σ HP Bw T c.g c.lw)(eg:∀ args w,(callFunc c.g args).run prog w=.ok (.enter c.g args) w):∀ J,AtOv K n σ HP Bw T c ob wb mb m0 V0 kt J false
 | 0=>by
   intro k o W m V e hs he _ hlev hkt;refine Zl6 hs he ?_ (by omega);rcases he with h|⟨b,hb⟩
   . exact h
   . exfalso;have h1:=hs.at_.st.ok.dag.lt b.v (hs.at_.st.ok.dag.var _ _ hb);rw[hs.vars] at h1;unfold lvE at hlev;rw[hb] at hlev;simp at hlev;omega
 | J+1=>Zx7 (Zv1 hK hHP hB hw eg (Zv0 hK hHP hB hw eg J)) hHP hB
end
open Go.RowKit
section
variable {K:Law}{n:Nat}{Od:List Nat->Prop}{room:Nat}{w0:World}{fs:List (Int×BF)}{nx:Int}{σ:Nat->BF}{HP:ManD->(Nat->BF)->Prop}{Bw:World->Prop}{T:Nat->Prop}{o:Own}{w:World}{mb xb:Nat}{m:ManD}{V:Nat->BF}
theorem Ya3 (hK:Zbh K)(hHP:∀ {o o':Own} {w w':World} {m m':ManD} {V V':Nat->BF},Step K o w mb m V o' w' m' V'->HP m V->HP m' V')(hB:∀ W W',Bw W->(∀ q,T q->W'.heap[q]?=W.heap[q]?)->Bw W'){g:Nat}{lw:Array Value}(hw:Zn7 K n σ HP Bw T g lw)(eg:∀ args w,(callFunc g args).run prog w=.ok (.enter g args) w)
 {b4 bf:Nat} {kf:Int} {F:BF} (hF:(kf,F)∈fs) (hsat:SatE K n Od room w0 mb fs nx w o m V) (hp:HP m V) (hbw:Bw w) (c4:w.cell? ⟨b4,0,none⟩=some (.func (.func g) #[] lw)) (cf:w.cell? ⟨bf,0,none⟩=some (.int .i64 kf)) (hno:∀ q,(q=b4\/q=bf\/T q)->o q=none) (hT:∀ q,T q->q<w.heap.size) (hx:Zdz o w xb mb) :
 Calls prog 199 #[.pointer (some ⟨xb,0,none⟩),.pointer (some ⟨b4,0,none⟩),.pointer (some ⟨bf,0,none⟩)] w (Zjj K ((2^n-1)*(2^n+1)) o w mb m V fun _ V' r=>ef V' r=Zd0 σ F):=by
 have gq:∀ (fn:Fn) (first cap:Array Value) (w:World),(Instr.makeFunc fn first cap).run prog w=.ok (.func fn first cap) w:=fun _ _ _ _=>rfl
 have gp:=fun t w=>Zew (P:=prog) w t
 obtain⟨w4,g4⟩:∃ w4,w4=(((w.alloc (.cells #[.pointer (some ⟨xb,0,none⟩)] 200)).alloc (.map #[] 0)).alloc (.cells #[.map (some (w.heap.size+1))] 259)).alloc (.cells #[.nilFunc] 260):=⟨_,rfl⟩;have gl:Hid (_=w4):=Hd g4.symm;have gi:w4.heap.size=w.heap.size+1+1+1+1:=by rw[g4];simp
 have gg:Below w.heap.size w w4:=by rw[g4];exact(((Zad _ _).alloc (by simp) _).alloc (by simp;omega) _).alloc (by simp;omega) _
 have g0:w4.heap[w.heap.size]?=some (.cells #[.pointer (some ⟨xb,0,none⟩)] 200 (0,0)):=by
  rw[g4];exact(Go.heap_alloc_old _ _ (by simp;omega)).trans ((Go.heap_alloc_old _ _ (by simp;omega)).trans ((Go.heap_alloc_old _ _ (by simp)).trans (heap_alloc_new _ _)))
 have g1:Zb9 w4 (w.heap.size+1) (Value.int .i64) []:=by
  have h1:=Zh8 (w.alloc (.cells #[.pointer (some ⟨xb,0,none⟩)] 200)) (Value.int .i64);rw[World.size_alloc] at h1;rw[g4];exact(h1.below (Zad _ _)).below (Zad _ _)
 have g2:w4.heap[w.heap.size+1+1]?=some (.cells #[.map (some (w.heap.size+1))] 259 (0,0)):=by
  have:=heap_alloc_new ((w.alloc (.cells #[.pointer (some ⟨xb,0,none⟩)] 200)).alloc (.map #[] 0)) (.cells #[.map (some (w.heap.size+1))] 259);rw[World.size_alloc,World.size_alloc] at this;rw[g4];exact(Go.heap_alloc_old _ _ (by simp)).trans this
 have g3:w4.heap[w.heap.size+1+1+1]?=some (.cells #[.nilFunc] 260 (0,0)):=by
  have:=heap_alloc_new (((w.alloc (.cells #[.pointer (some ⟨xb,0,none⟩)] 200)).alloc (.map #[] 0)).alloc (.cells #[.map (some (w.heap.size+1))] 259)) (.cells #[.nilFunc] 260);rw[World.size_alloc,World.size_alloc,World.size_alloc] at this;rw[g4];exact this
 have c6:=cell1 g3;have f6:w4.frozen? ⟨w.heap.size+1+1+1,0,none⟩=false:=by simp[World.frozen?,g3]
 obtain⟨w5,g6⟩:∃ w5,w5=w4.setCell ⟨w.heap.size+1+1+1,0,none⟩ (.func (.func 200) #[] #[.pointer (some ⟨w.heap.size+1+1+1,0,none⟩),.pointer (some ⟨w.heap.size+1+1,0,none⟩),.pointer (some ⟨w.heap.size,0,none⟩),.pointer (some ⟨b4,0,none⟩)]):=⟨_,rfl⟩;have gr:Hid (_=w5):=Hd g6.symm;have ga:∀ q:Nat,q≠w.heap.size+1+1+1->w5.heap[q]?=w4.heap[q]?:=fun q hq=>by rw[g6];exact Zai hq _
 have e6:w5.heap[w.heap.size+1+1+1]?=some (.cells #[.func (.func 200) #[] #[.pointer (some ⟨w.heap.size+1+1+1,0,none⟩),.pointer (some ⟨w.heap.size+1+1,0,none⟩),.pointer (some ⟨w.heap.size,0,none⟩),.pointer (some ⟨b4,0,none⟩)]] 260 (0,0)):=by rw[g6];exact Zae g3 _
 have gd:Below w.heap.size w w5:=by rw[g6];exact gg.setCell (p:=⟨w.heap.size+1+1+1,0,none⟩) (by show w.heap.size<=w.heap.size+1+1+1;omega) _
 have gn:(store ⟨w.heap.size+1+1+1,0,none⟩ (.func (.func 200) #[] #[.pointer (some ⟨w.heap.size+1+1+1,0,none⟩),.pointer (some ⟨w.heap.size+1+1,0,none⟩),.pointer (some ⟨w.heap.size,0,none⟩),.pointer (some ⟨b4,0,none⟩)])).run prog w4=.ok () w5:=by
  rw[run_store _ _ _ _ _ rfl];simp[c6,f6,g6]
 obtain⟨wd,g9⟩:∃ wd,wd=w5.drew:=⟨_,rfl⟩;have gh:=Hd g9;have g5:Below w.heap.size w wd:=by rw[g9];exact gd.trans ((Zaf w5 1).mono gd.size)
 have g8:∀ q:Nat,wd.heap[q]?=w5.heap[q]?:=fun q=>by rw[g9];rfl
 have k6:wd.cell? ⟨w.heap.size+1+1+1,0,none⟩=some (.func (.func 200) #[] #[.pointer (some ⟨w.heap.size+1+1+1,0,none⟩),.pointer (some ⟨w.heap.size+1+1,0,none⟩),.pointer (some ⟨w.heap.size,0,none⟩),.pointer (some ⟨b4,0,none⟩)]):=cell1 ((g8 _).trans e6);have k3:wd.cell? ⟨w.heap.size,0,none⟩=some (.pointer (some ⟨xb,0,none⟩)):=cell1 ((g8 _).trans ((ga _ (by omega)).trans g0));have k5:wd.cell? ⟨w.heap.size+1+1,0,none⟩=some (.map (some (w.heap.size+1))):=cell1 ((g8 _).trans ((ga _ (by omega)).trans g2));have km:Zb9 wd (w.heap.size+1) (Value.int .i64) []:=g1.keepB ((g8 _).trans (ga _ (by omega)));have kf0:=(g5.cell (p:=⟨bf,0,none⟩) (Zaa cf)).trans cf;have k4:=(g5.cell (p:=⟨b4,0,none⟩) (Zaa c4)).trans c4;obtain⟨f,hf,gf⟩:=hsat.find hF;have hk:=hsat.ok;have g7:=hsat.lt;have gj:xb<w.heap.size:=Zaa hx.cell;have gc:Zdz o wd xb mb:=⟨(g5.cell (p:=⟨xb,0,none⟩) (Zaa hx.cell)).trans hx.cell,hx.own⟩;have hs:OvS K n σ HP Bw T ⟨w.heap.size+1+1+1,w.heap.size+1+1,w.heap.size+1,w.heap.size,b4,xb,g,lw⟩ o w mb m V 0 o wd m V:=by
  have go:b4<w.heap.size:=Zaa c4;have n1:w.heap.size+1≠w.heap.size+1+1+1:=by omega
  have n2:w.heap.size+1≠w.heap.size+1+1:=by omega
  have n3:w.heap.size+1≠w.heap.size:=by omega
  have n4:w.heap.size+1≠b4:=by omega
  have n5:w.heap.size+1≠xb:=by omega
  have n6:¬ T (w.heap.size+1):=fun e=>by have:=hT _ e;omega
  refine⟨(AtC.refl hsat.is g7 hk.store).below g5,hsat.vars,gc,hp,hB _ _ hbw (fun q hq=>g5.block q (hT q hq)),k6,k5,k3,k4,?_,fun q hq=>Nat.lt_of_lt_of_le (hT q hq) g5.size,⟨n1,n2,n3,n4,n5,n6⟩,by show w.heap.size<=w.heap.size+1;omega,⟨[],km,fun p hp=>by simp at hp⟩⟩;rintro q (rfl|rfl|rfl|rfl|rfl|hq)
  . exact g7.none (by show w.heap.size<=w.heap.size+1+1+1;omega)
  . exact g7.none (by show w.heap.size<=w.heap.size+1+1;omega)
  . exact g7.none (by show w.heap.size<=w.heap.size+1;omega)
  . exact g7.none (Nat.le_refl _)
  . exact hno _ (.inl rfl)
  . exact hno _ (.inr (.inr hq))
 have gb:=Zv0 (T:=T) (ob:=o) (wb:=w) (mb:=mb) (m0:=m) (V0:=V) (kt:=(2^n-1)*(2^n+1)) (c:=⟨w.heap.size+1+1+1,w.heap.size+1+1,w.heap.size+1,w.heap.size,b4,xb,g,lw⟩) hK hHP hB hw eg n 0 o wd m V f hs (hk.handles.ok _ hf) (fun h=>by cases h) (by omega) (by omega);have gm:=Hd (Zdh hs.at_.st.is gc hk.handles.nodup hf);obtain⟨P,hP⟩:∃ P:Ending->World->Prop,P=Zjj K ((2^n-1)*(2^n+1)) o w mb m V fun _ V' r=>ef V' r=Zd0 σ F:=⟨_,rfl⟩
 have ge:Hid (Calls prog 200 #[.int .i64 f,.pointer (some ⟨w.heap.size+1+1+1,0,none⟩),.pointer (some ⟨w.heap.size+1+1,0,none⟩),.pointer (some ⟨w.heap.size,0,none⟩),.pointer (some ⟨b4,0,none⟩)] wd fun x w'=>(∃ u,x=.returned u/\(w'.cell? ⟨w.heap.size+1+1+1,0,none⟩=some (.func (.func 200) #[] #[.pointer (some ⟨w.heap.size+1+1+1,0,none⟩),.pointer (some ⟨w.heap.size+1+1,0,none⟩),.pointer (some ⟨w.heap.size,0,none⟩),.pointer (some ⟨b4,0,none⟩)])/\w'.cell? ⟨w.heap.size,0,none⟩=some (.pointer (some ⟨xb,0,none⟩))/\w'.cell? ⟨bf,0,none⟩=some (.int .i64 kf))/\∃ r:Nat,u=.int .i64 r/\P (.returned (.int .i64 r)) w')\/(∃ ch,x=.panicked ch/\P (.panicked ch) w')):=Hd (gb.mono (by
  rintro x w' (⟨r,o2,m2,V2,rfl,p1,p2,p3,p4⟩|⟨er,evt,ev,rfl,gk⟩)
  .
   refine .inl ⟨_,rfl,⟨p1.f,p1.x,p1.at_.st.chg.cell cf (hno _ (.inr (.inl rfl)))⟩,r,rfl,?_⟩;rw[hP];refine .inl ⟨r,o2,m2,V2,rfl,p1.at_.mono (by omega),p3,?_⟩
   show ef V2 r=_
   rw[p4,show ef V f=F from gf]
  . refine .inr ⟨_,rfl,?_⟩;rw[hP];exact .inr ⟨er,evt,ev,rfl,gk⟩))
 rw[<- hP];have eg1:=Zfu;clear hP gb hs hk g7 gf hf gj hsat hp hbw hB hHP hw hK hno hT hx gg gd g5 g8 ga e6 g0 g1 g2 g3 g4 g6 g9 k5 km k4 hF gi gc
 go_enter func199,ntmps199
 go_upto_region 3 with fail;rw[gl.out];go_upto_region 4 with fail;refine Zfz [0,1,2,3,4,5] (fun W=>W.cell? ⟨w.heap.size+1+1+1,0,none⟩=some (.func (.func 200) #[] #[.pointer (some ⟨w.heap.size+1+1+1,0,none⟩),.pointer (some ⟨w.heap.size+1+1,0,none⟩),.pointer (some ⟨w.heap.size,0,none⟩),.pointer (some ⟨b4,0,none⟩)])/\W.cell? ⟨w.heap.size,0,none⟩=some (.pointer (some ⟨xb,0,none⟩))/\W.cell? ⟨bf,0,none⟩=some (.int .i64 kf)) (fun ch w'=>P (.panicked ch) w') (fun c a w hd h=>⟨hd,h⟩) (by kernel_rfl) (by rw[<- gh.out];exact⟨k6,k3,kf0⟩) ?_;rw[<- gh.out]
 iterate 3
  refine Zdt rfl rfl (by kernel_rfl) ?_;apply Exists.intro;refine⟨fun w' hw=>?_,?_⟩
  . obtain⟨q1,q2,q3⟩:=hw;go_simp;rfl
  simp only[Zah]
 refine Zd7 (R1:=fun u w'=>u=.int .i64 f/\wd=w') rfl (by kernel_rfl) rfl rfl (by go_simp) (gm.out.mono fun x w' h=>⟨_,h.1,rfl,h.2⟩) (by rintro u w' ⟨_,rfl⟩;exact⟨k6,k3,kf0⟩) ?_;rintro u w'-⟨rfl,rfl⟩;simp only[Zah];refine Ziu rfl (by kernel_rfl) rfl rfl (by go_simp) ge.out ?_;rintro u w2 hS ⟨r,rfl,hp⟩;have HF:=Hd hp;clear hp hS;simp only[Zah];refine Zdt rfl rfl (by kernel_rfl) ?_;apply Exists.intro;refine⟨fun w' hw=>?_,?_⟩
 . go_simp;rfl
 simp only[Zah];refine Zks (by kernel_rfl) ?_;clear k6 k3 kf0;go_wp2_with fail;exact HF.out
end
open Go.RowKit
section
variable {K:Law}{n:Nat}{Od:List Nat->Prop}{room:Nat}{w0:World}{fs:List (Int×BF)}{nx:Int}{σ:Nat->BF}{HP:ManD->(Nat->BF)->Prop}{Bw:World->Prop}{T:Nat->Prop}{o:Own}{w w1:World}{mb xb:Nat}{m:ManD}{V:Nat->BF}{ws0:List Ev}
theorem boxes2v (w:World)(x y:Value)(s t:TypeId):∃ w3,w3=(w.alloc (.cells #[x] s)).alloc (.cells #[y] t)/\Below w.heap.size w w3/\w3.heap.size=w.heap.size+2/\w3.cell? ⟨w.heap.size,0,none⟩=some x/\w3.cell? ⟨w.heap.size+1,0,none⟩=some y:=by
 refine⟨_,rfl,(Zad _ _).alloc (by simp) _,by simp,?_,?_⟩
 . exact cell1 ((Go.heap_alloc_old _ _ (by simp)).trans (heap_alloc_new _ _))
 . have:=heap_alloc_new (w.alloc (.cells #[x] s)) (.cells #[y] t);rw[World.size_alloc] at this;exact cell1 this
theorem Zx6 (hK:Zbh K)(hHP:∀ {o o':Own} {w w':World} {m m':ManD} {V V':Nat->BF},Step K o w mb m V o' w' m' V'->HP m V->HP m' V')(hB:∀ W W',Bw W->(∀ q,T q->W'.heap[q]?=W.heap[q]?)->Bw W'){g:Nat}{lw:Array Value}(hw:Zn7 K n σ HP Bw T g lw)(eg:∀ args w,(callFunc g args).run prog w=.ok (.enter g args) w)
 (hp:∀ o W m V,SatE K n (fun _=>True) room w0 mb fs nx W o m V->HP m V) {kf:Int} {F:BF} (hF:(kf,F)∈fs) (h:SatE K n (fun _=>True) room w0 mb fs nx w o m V) (hb:Below w.heap.size w w1) (hT:∀ q,T q->w.heap.size<=q/\q<w1.heap.size) (hbw:Bw w1) (hst:m.waits <:+ ws0) (hn:nx<=549755813888) (hr:fs.length*2^n+(2^n-1)*(2^n+1)<=room) :
 Calls prog 150 #[.pointer (some ⟨mb,0,none⟩),.int .i64 kf,.func (.func g) #[] lw] w1 (NewF K n room w0 mb fs nx ws0 (Zd0 σ F) o w):=by
 have g7:∀ (fn:Fn) (first cap:Array Value) (w:World),(Instr.makeFunc fn first cap).run prog w=.ok (.func fn first cap) w:=fun _ _ _ _=>rfl
 obtain⟨w3,g2,g0,g4,c0,c1⟩:=boxes2v w1 (.int .i64 kf) (.func (.func g) #[] lw) 3 211;have g6:Hid (_=w3):=Hd g2.symm;have g5:=hb.size
 have g3:=Hd (Zuw (C:=fun q=>q=w1.heap.size+1\/q=w1.heap.size\/T q) (B:=fun W=>(W.cell? ⟨w1.heap.size+1,0,none⟩=some (.func (.func g) #[] lw)/\W.cell? ⟨w1.heap.size,0,none⟩=some (.int .i64 kf))/\Bw W) (F:=Zd0 σ F) (k:=(2^n-1)*(2^n+1)) (lop:=#[.pointer (some ⟨w1.heap.size+1,0,none⟩),.pointer (some ⟨w1.heap.size,0,none⟩)]) hK Zoq ws0
  (fun W W' hb hk=>⟨⟨(World.cell?_of_block (w:=W) (a:=⟨w1.heap.size+1,0,none⟩) (hk _ (.inl rfl))).trans hb.1.1,(World.cell?_of_block (w:=W) (a:=⟨w1.heap.size,0,none⟩) (hk _ (.inr (.inl rfl)))).trans hb.1.2⟩,hB _ _ hb.2 (fun q hq=>hk q (.inr (.inr hq)))⟩)
  (fun o W m V xb hs g1 hC hx _=>Ya3 hK hHP hB hw eg hF hs (hp _ _ _ _ hs) g1.2 g1.1.1 g1.1.2 (fun q hq=>(hC q hq).2) (fun q hq=>(hC q (.inr (.inr hq))).1) hx) h (hb.trans (g0.mono hb.size)) (by
   rintro q (rfl|rfl|hq)
   . exact⟨by omega,.inl (by omega)⟩
   . exact⟨by omega,.inl (by omega)⟩
   . have:=hT q hq;exact⟨by omega,.inl this.1⟩) ⟨⟨c1,c0⟩,hB _ _ hbw (fun q hq=>g0.block q (hT q hq).2)⟩ hst hn hr)
 clear g2 g0 g4 c0 c1 h hK hw hst hn hr hF hHP hB hp hT hbw hb g5;obtain⟨P,hP⟩:∃ P,P=NewF K n room w0 mb fs nx ws0 (Zd0 σ F) o w:=⟨_,rfl⟩;rw[<- hP] at g3 ⊢;have HT:Hid (∀ x w',P x w'->∃ a b,x=.returned (.tuple #[.int .i64 a,.int .i64 b])):=Hd (by subst hP;rintro x w' ⟨rfl,_⟩;exact⟨_,_,rfl⟩);clear hP
 go_enter func150,ntmps150
 go_upto_region 1 with fail;rw[g6.out];go_wp2_with fail;refine g3.out.mono ?_;intro x w' hd;obtain⟨a,b,rfl⟩:=HT.out x w' hd;have HD:=Hd hd;clear hd;go_wp2_with fail;exact HD.out
theorem Zk2 (h:SatE K n Od room w0 mb fs nx w o m V)(v:Int):Calls prog 149 #[.pointer (some ⟨mb,0,none⟩),.int .i64 v] w fun x w'=>x=.returned (.bool (decide (0<=v/\v<(n:Int))))/\w=w':=by
 have HV:=Hd h.vars_any;clear h
 by_cases h0:v>=0
 .
  by_cases h1:v<(n:Int)
  .
   rw[decide_eq_true ⟨h0,h1⟩];have hd:decide (v<(n:Int))=true:=decide_eq_true h1
   go_enter func149,ntmps149
   go_wp2_with fail;refine HV.out.mono ?_;rintro x w' ⟨rfl,rfl⟩;go_wp2_with fail;go_ret;exact⟨rfl,rfl⟩
  .
   rw[decide_eq_false (fun hh=>h1 hh.2)];have hd:decide (v<(n:Int))=false:=decide_eq_false h1
   go_enter func149,ntmps149
   go_wp2_with fail;refine HV.out.mono ?_;rintro x w' ⟨rfl,rfl⟩;go_wp2_with fail;go_ret;exact⟨rfl,rfl⟩
 .
  rw[decide_eq_false (fun hh=>h0 hh.1)]
  go_enter func149,ntmps149
  go_wp2_with fail;go_ret;exact⟨rfl,rfl⟩
def known (fs:List (Int×BF))(k:Int):Prop:=∃ F,(k,F)∈fs
theorem Zqp (h:SatE K n Od room w0 mb fs nx w o m V)(k:Int){b:Bool}(hb:b=true↔known fs k):Calls prog 55 #[.pointer (some ⟨mb,0,none⟩),.int .i64 k] w fun x w'=>x=.returned (.bool b)/\w=w':=by
 cases b with
 | true =>
   obtain⟨F,hF⟩:=hb.1 rfl;exact Zpb h hF
 | false=>exact Zro h (fun p hp e=>by
  have:known fs k:=⟨p.2,by rw[<- e];exact hp⟩;have:=hb.2 this;cases this)
theorem Zt9 (h:SatE K n Od room w0 mb fs nx w o m V){a:Option Addr}{c:Nat}{ks:List Int}(hz:Zay w a ks){er:Int}(her:(er=0/\∀ k∈ks,known fs k)\/(er=8/\∃ k∈ks,¬ known fs k)) :
 Calls prog 148 #[.pointer (some ⟨mb,0,none⟩),.slice a ks.length c] w fun x w'=>x=.returned (.int .i64 er)/\w=w':=by
 have HZ:=Hd hz;have ga:=hz.len;have g4:Hid (∀ k b,(b=true↔known fs k)->Calls prog 55 #[.pointer (some ⟨mb,0,none⟩),.int .i64 k] w fun x w'=>x=.returned (.bool b)/\w=w'):=Hd fun k b hb=>Zqp h k hb
 obtain⟨P,hP⟩:∃ P:Ending->World->Prop,P=fun x w'=>x=.returned (.int .i64 er)/\w=w':=⟨_,rfl⟩
 have g5:Hid (∀ k∈ks,¬ known fs k->P (.returned (.int .i64 8)) w):=Hd fun k hk hn=>by
  rw[hP];rcases her with ⟨_,h2⟩|⟨rfl,_⟩
  . exact absurd (h2 k hk) hn
  . exact⟨rfl,rfl⟩
 have g2:Hid ((∀ q,q<ks.length->known fs (at0 ks q))->P (.returned (.int .i64 0)) w):=Hd fun hq=>by
  rw[hP];rcases her with ⟨rfl,_⟩|⟨_,k,hk,hn⟩
  . exact⟨rfl,rfl⟩
  . obtain⟨q,g3,rfl⟩:=List.getElem_of_mem hk;have:=hq q g3;rw[Zby g3] at this;exact absurd this hn
 rw[<- hP];clear hP h hz her
 go_enter func148,ntmps148
 go_wp2_with fail
 go_loopw [4,6,11] (fun _ _ s11 wr=>∃ j:Nat,j<=ks.length/\s11=.int .i64 j/\wr=w/\Hid (∀ q,q<j->known fs (at0 ks q))) (fun _ _ s11 _=>ks.length-(intOf s11).toNat)
 case atStart=>exact⟨0,Nat.zero_le _,rfl,rfl,Hd fun q hq=>by omega⟩
 case round =>
  obtain⟨j,hj,rfl,rfl,HQ⟩:=hrel
  by_cases g1:j<ks.length
  .
   have g6:(j:Int)<(ks.length:Int):=by omega
   obtain⟨b,off,rfl,ck⟩:=HZ.out.cells j g1;obtain⟨z,hz⟩:∃ z,z=at0 ks j:=⟨_,rfl⟩;rw[<- hz] at ck;have g9:Hid (z∈ks):=Hd (by rw[hz,Zby g1];exact List.getElem_mem g1);have g7:=Hd hz;clear hz
   by_cases g0:known fs z
   .
    have HI:=Hd (g4.out z true (by simp[g0]));have g8:Hid (∀ q,q<j+1->known fs (at0 ks q)):=Hd fun q hq=>by
     rcases Nat.lt_or_ge q j with h|h
     . exact HQ.out q h
     .
      obtain rfl:q=j:=by omega
      rw[<- g7.out];exact g0
    clear g0;go_wp2_with fail;refine HI.out.mono ?_;rintro x w' ⟨rfl,rfl⟩;go_wp2_with fail;go_roundw
    case rel=>exact⟨j+1,by omega,by go_num,by trivial,g8⟩
    case measure=>simp[intOf];omega
   . have HI:=Hd (g4.out z false (by simp[g0]));have HF:=Hd (g5.out z g9.out g0);clear g0;go_wp2_with fail;refine HI.out.mono ?_;rintro x w' ⟨rfl,rfl⟩;go_wp2_with fail;exact HF.out
  .
   obtain rfl:j=ks.length:=by omega
   have g6:¬ (ks.length:Int)<(ks.length:Int):=by omega
   have HF:=Hd (g2.out HQ.out);go_wp2_with fail;exact HF.out
end
open Go.RowKit
theorem Zoo (args:Array Value)(w:World):(callFunc 151 args).run prog w=.ok (.enter 151 args) w:=enters_of func151 (by kernel_rfl) rfl args w
open Go.RowKit
def sigF (zs:List Int):Nat->BF:=fun u=>if (u:Int)∈zs then notF (varF u) else varF u
theorem Zy5 (w:World):(zeroValue 4).run prog w=.ok (.bool false) w:=(zero_of_info (n:=1) (by kernel_rfl)).1 w
structure Zjk (bm tb:Nat)(zs:List Int)(W:World):Prop where
 c:W.cell? ⟨bm,0,none⟩=some (.map (some tb))
 m:∃ l,Zb9 W tb (Value.int .i64) l/\∀ u:Int,getL l u=if u∈zs then some (.bool true) else none
section
variable {K:Law}{n:Nat}{room:Nat}{w0:World}{fs:List (Int×BF)}{nx:Int}{o o':Own}{w w':World}{mb:Nat}{m m':ManD}{V V':Nat->BF}{ws0:List Ev}{k:Int}{G:BF}
theorem Zjk.look {bm tb:Nat}{zs:List Int}{W:World}(h:Zjk bm tb zs W)(u:Int):(Instr.lookup 158 (.map (some tb)) (.int .i64 u) false).run prog W=.ok (.bool (decide (u∈zs))) W:=by
 obtain⟨l,hl,hg⟩:=h.m;have h1:=hl.lookup kI underlying158 Zy5 u false;rw[h1,hg]
 by_cases e:u∈zs
 . simp[e]
 . simp[e]
theorem Zjk.keep {bm tb:Nat}{zs:List Int}{W W':World}(h:Zjk bm tb zs W)(hk:∀ q,(q=bm\/q=tb)->W'.heap[q]?=W.heap[q]?):Zjk bm tb zs W':=by
 obtain⟨l,hl,hg⟩:=h.m;exact⟨(World.cell?_of_block (w:=W) (a:=⟨bm,0,none⟩) (hk _ (.inl rfl))).trans h.c,l,hl.keepB (hk _ (.inr rfl)),hg⟩
theorem Yaf (hK:Zbh K){bm tb:Nat}{zs:List Int}:Zn7 K n (sigF zs) (fun _ _=>True) (Zjk bm tb zs) (fun q=>q=bm\/q=tb) 151 #[.pointer (some ⟨bm,0,none⟩)]:=by
 intro o W xb mb m V v hm g2 hx hk hn _ g8 hT hv;have g0:Below W.heap.size W W.drew:=Zaf W 1;obtain⟨s,g3⟩:=hm;have g6:Zdo (K m.d V) o W.drew mb m:=⟨s,g3.below g2 g0⟩;have g5:Zdz o W.drew xb mb:=⟨(g0.cell (p:=⟨xb,0,none⟩) (Zaa hx.cell)).trans hx.cell,hx.own⟩;have g1:Zjk bm tb zs W.drew:=g8.keep fun _ _=>rfl
 have g4:AtC K 0 o W mb m V o W.drew m V:=(AtC.refl ⟨s,g3⟩ g2 hk).below g0;obtain⟨P,hP⟩:∃ P:Ending->World->Prop,P=fun e w'=>(∃ (r:Nat) (ok:Bool) (o':Own) (m':ManD) (V':Nat->BF),e=.returned (.tuple #[.int .i64 r,.bool ok])/\AtC K 1 o W mb m V o' w' m' V'/\okE (Zab m'.d) r/\(ok=true->ef V' r=sigF zs v)/\(ok=false->sigF zs v=varF v)) \/
  (∃ er evt ev,e=Zcg er evt ev/\Zn3 K 1 o W mb m V er evt ev w'):=⟨_,rfl⟩
 obtain⟨b,hb⟩:∃ b:Bool,b=decide ((v:Int)∈zs):=⟨_,rfl⟩
 have g9:Hid (Calls prog 139 #[.pointer (some ⟨xb,0,none⟩),.int .i64 v,.int .i64 1,.int .i64 0] W.drew fun e w'=>(∃ u,e=.returned u/\(w'.heap[bm]?=W.drew.heap[bm]?/\w'.heap[tb]?=W.drew.heap[tb]?)/\∃ r:Nat,u=.int .i64 r/\(Calls prog 108 #[.int .i64 r] w' fun x w2=>x=.returned (.int .i64 (enot r:Nat))/\w'=w2)/\P (.returned (.tuple #[.int .i64 (enot r:Nat),.bool b])) w')\/(∃ ch,e=.panicked ch/\P (.panicked ch) w')):=Hd ((Zrf hK g6 (g2.mono g0.size) g5 hk v (by rw[hn];exact hv)).mono (by
  rintro e w' (⟨r,o',m',V',rfl,p1,p2,p3⟩|⟨er,evt,ev,rfl,gb⟩)
  .
   refine .inl ⟨_,rfl,⟨p1.st.chg.alien (hT _ (.inl rfl)).1 (hT _ (.inl rfl)).2,p1.st.chg.alien (hT _ (.inr rfl)).1 (hT _ (.inr rfl)).2⟩,r,rfl,Zht r w' (Zgv p1.st.is p2),?_⟩;rw[hP];refine .inl ⟨enot r,b,o',m',V',rfl,(g4.trans p1).mono (by omega),Zie p2,fun e=>?_,fun e=>?_⟩
   . rw[hb,decide_eq_true_eq] at e;unfold sigF;rw[if_pos e,Zmu,p3]
   . rw[hb,decide_eq_false_iff_not] at e;unfold sigF;rw[if_neg e]
  . refine .inr ⟨_,rfl,?_⟩;rw[hP];exact .inr ⟨er,evt,ev,rfl,gb.after g4 (by omega)⟩))
 have g7:∀ W',W'.heap[bm]?=W.drew.heap[bm]?->W'.heap[tb]?=W.drew.heap[tb]?->W'.cell? ⟨bm,0,none⟩=some (.map (some tb))/\(Instr.lookup 158 (.map (some tb)) (.int .i64 (v:Nat)) false).run prog W'=.ok (.bool b) W':=fun W' e1 e2=>by
  have h:=g1.keep (W':=W') (by rintro q (rfl|rfl)<;>assumption);exact⟨h.c,by rw[hb];exact h.look _⟩
 have ga:=Hd g7;have cb:=g1.c
 show Calls _ _ #[_,_,_] _ _
 rw[<- hP];clear hP hx hk hn g0 g3 g6 g5 g4 g2 hv hb g8 g1 g7 hK hT
 go_enter func151,ntmps151
 go_upto_region 1 with fail;refine Zfz [0,1,4,5,6,2,3,7,8] (fun W':World=>W'.heap[bm]?=W.drew.heap[bm]?/\W'.heap[tb]?=W.drew.heap[tb]?) (fun ch w'=>P (.panicked ch) w') (fun c a w hd h=>⟨hd,h⟩) (by kernel_rfl) ⟨rfl,rfl⟩ ?_
 iterate 5
  refine Zdt rfl rfl (by kernel_rfl) ?_;apply Exists.intro;refine⟨fun w' hw=>?_,?_⟩
  . obtain⟨q1,q2⟩:=ga.out w' hw.1 hw.2;clear hw;go_simp;rfl
  simp only[Zah]
 refine Ziu rfl (by kernel_rfl) rfl rfl (by go_simp) g9.out ?_;rintro u w2 hS ⟨r,rfl,hn,hp⟩;have HF:=Hd hp;have gc:=Hd hn;have HS:=Hd hS;clear hn hp hS g9 ga cb;simp only[Zah];refine Zd7 (R1:=fun u w'=>u=.int .i64 (enot r:Nat)/\w2=w') rfl (by kernel_rfl) rfl rfl (by go_simp) (gc.out.mono fun x w' h=>⟨_,h.1,rfl,h.2⟩) (by rintro u w' ⟨_,rfl⟩;exact HS.out) ?_;rintro u w'-⟨rfl,rfl⟩;simp only[Zah]
 iterate 2
  refine Zdt rfl rfl (by kernel_rfl) ?_;apply Exists.intro;refine⟨fun w' hw=>?_,?_⟩
  . clear hw;go_simp;rfl
  simp only[Zah]
 refine Zks (by kernel_rfl) ?_;go_wp2_with fail;exact HF.out
end
open Go.RowKit
section
variable {K:Law}{n:Nat}{room:Nat}{w0:World}{fs:List (Int×BF)}{nx:Int}{o o':Own}{w w':World}{mb:Nat}{m m':ManD}{V V':Nat->BF}{ws0:List Ev}{k:Int}{G:BF}
theorem Zq5 (hK:Zbh K)(h:SatE K n (fun _=>True) room w0 mb fs nx w o m V){kf:Int}{F:BF}(hf:(kf,F)∈fs){a:Option Addr}{c:Nat}{zs:List Int}(hz:Zay w a zs)(hst:m.waits <:+ ws0)(hn:nx<=549755813888)(hr:fs.length*2^n+(2^n-1)*(2^n+1)<=room) :
 Calls prog 93 #[.pointer (some ⟨mb,0,none⟩),.int .i64 kf,.slice a zs.length c] w fun x w'=>((∀ v∈zs,0<=v/\v<(n:Int))->NewF K n room w0 mb fs nx ws0 (Zd0 (sigF zs) F) o w x w')/\((∃ v∈zs,¬ (0<=v/\v<(n:Int)))->x=.returned (.tuple #[.int .i64 0,.int .i64 9])/\Below w.heap.size w w'):=by
 have gz:∀ (fn:Fn) (first cap:Array Value) (w:World),(Instr.makeFunc fn first cap).run prog w=.ok (.func fn first cap) w:=fun _ _ _ _=>rfl
 have gy:=fun t w=>Zew (P:=prog) w t
 obtain⟨w1,g5⟩:∃ w1,w1=w.alloc (.cells #[.int .i64 kf] 3):=⟨_,rfl⟩;have HW1:Hid (_=w1):=Hd g5.symm;have g8:Below w.heap.size w w1:=by rw[g5];exact Zad _ _
 have gc:w1.heap.size=w.heap.size+1:=by rw[g5];simp
 have gd:Zay w1 (some ⟨w.heap.size,0,none⟩) [kf]:=by rw[g5];exact Zet w [kf] (by simp)
 have gk:=Hd (Zt9 (h.below g8) (c:=1) gd (er:=0) (.inl ⟨rfl,fun k hk=>by simp at hk;subst hk;exact⟨F,hf⟩⟩));obtain⟨w2,g4⟩:∃ w2,w2=(w1.alloc (.map #[] 0)).alloc (.cells #[.map (some w1.heap.size)] 158):=⟨_,rfl⟩;have gq:Hid (_=w2):=Hd g4.symm;have gg:Below w.heap.size w w2:=by rw[g4];exact(g8.alloc (by omega) _).alloc (by simp;omega) _
 have g1:Zb9 w2 w1.heap.size (Value.int .i64) []:=by rw[g4];exact(Zh8 w1 (Value.int .i64)).below (Zad _ _)
 have g2:w2.heap[w1.heap.size+1]?=some (.cells #[.map (some w1.heap.size)] 158 (0,0)):=by
  have:=heap_alloc_new (w1.alloc (.map #[] 0)) (.cells #[.map (some w1.heap.size)] 158);rw[World.size_alloc] at this;rw[g4];exact this
 have gh:Hid (Zjk (w1.heap.size+1) w1.heap.size (zs.take 0) w2):=Hd ⟨cell1 g2,[],g1,fun u=>by simp[getL,Zdi]⟩;have gx:=hz.len;have HZ:=Hd hz;have gp:=Hd gc;have HB2:=Hd gg;have gj:Hid (∀ W (v:Int),Below w.heap.size w W->Calls prog 149 #[.pointer (some ⟨mb,0,none⟩),.int .i64 v] W fun x w'=>x=.returned (.bool (decide (0<=v/\v<(n:Int))))/\W=w'):=Hd fun W v hb=>Zk2 (h.below hb) v
 obtain⟨P,hP⟩:∃ P:Ending->World->Prop,P=fun x w'=>((∀ v∈zs,0<=v/\v<(n:Int))->NewF K n room w0 mb fs nx ws0 (Zd0 (sigF zs) F) o w x w')/\((∃ v∈zs,¬ (0<=v/\v<(n:Int)))->x=.returned (.tuple #[.int .i64 0,.int .i64 9])/\Below w.heap.size w w'):=⟨_,rfl⟩
 have gb:Hid (∀ v W,v∈zs->¬ (0<=v/\v<(n:Int))->Below w.heap.size w W->P (.returned (.tuple #[.int .i64 0,.int .i64 9])) W):=Hd fun v W hv hn hb=>by
  rw[hP];exact⟨fun hh=>absurd (hh v hv) hn,fun _=>⟨rfl,hb⟩⟩
 have gu:Hid (∀ W,Below w.heap.size w W->Zjk (w1.heap.size+1) w1.heap.size zs W->(∀ q,q<zs.length->0<=at0 zs q/\at0 zs q<(n:Int))->Calls prog 150 #[.pointer (some ⟨mb,0,none⟩),.int .i64 kf,.func (.func 151) #[] #[.pointer (some ⟨w1.heap.size+1,0,none⟩)]] W fun x w'=>∃ p q,x=.returned (.tuple #[.int .i64 p,.int .i64 q])/\P x w'):=Hd fun W hb ht gi=>by
  have ga:∀ v∈zs,0<=v/\v<(n:Int):=fun v hv=>by
   obtain⟨q,hq,rfl⟩:=List.getElem_of_mem hv;have:=gi q hq
   rwa [Zby hq] at this
  refine(Zx6 (σ:=sigF zs) (HP:=fun _ _=>True) (Bw:=Zjk (w1.heap.size+1) w1.heap.size zs) (T:=fun q=>q=w1.heap.size+1\/q=w1.heap.size) hK (fun _ h=>h) (fun W W' hb hk=>hb.keep hk) (Yaf hK) Zoo (fun _ _ _ _ _=>trivial) hf h hb (by
   obtain⟨l,hl,_⟩:=ht.m;have gm:=hl.lt;have gl:w1.heap.size+1<W.heap.size:=Zaa ht.c;rintro q (rfl|rfl)
   . exact⟨by omega,gl⟩
   . exact⟨by omega,gm⟩) ht hst hn hr).mono ?_
  intro x w' hx;refine⟨nx,0,hx.1,?_⟩;rw[hP];exact⟨fun _=>hx,fun⟨v,hv,hn⟩=>absurd (ga v hv) hn⟩
 rw[<- hP];clear hP g5 g8 gc gd g4 gg g1 g2 h hK hf hz hst hn hr
 go_enter func93,ntmps93
 go_wp2_with fail;rw[HW1.out];refine gk.out.mono ?_;rintro x w' ⟨rfl,rfl⟩;go_upto_region 5 with fail;rw[gq.out];go_wp2_with fail
 go_loopw [6,7,11,22] (fun _ _ _ s22 wr=>∃ j:Nat,j<=zs.length/\s22=.int .i64 j/\Hid (Below w.heap.size w wr)/\Hid (Zjk (w1.heap.size+1) w1.heap.size (zs.take j) wr)/\Hid (∀ q,q<j->0<=at0 zs q/\at0 zs q<(n:Int))) (fun _ _ _ s22 _=>zs.length-(intOf s22).toNat)
 case atStart=>exact⟨0,Nat.zero_le _,rfl,HB2,gh,Hd fun q hq=>by omega⟩
 case round =>
  obtain⟨j,hj,rfl,g3,HT,HQ⟩:=hrel;clear gh HB2;have cb:=HT.out.c
  by_cases g6:j<zs.length
  .
   have gn:(j:Int)<(zs.length:Int):=by omega
   obtain⟨b,off,rfl,ck⟩:=HZ.out.cells j g6;have ckr:=(g3.out.cell (p:=⟨b,off+j,none⟩) (Zaa ck)).trans ck;obtain⟨z,hz⟩:∃ z,z=at0 zs j:=⟨_,rfl⟩;rw[<- hz] at ckr;have go:=Hd hz;have gr:Hid (zs.take (j+1)=zs.take j++[z]):=Hd (by rw[List.take_succ_eq_append_getElem g6,hz,Zby g6]);have gv:Hid (z∈zs):=Hd (by rw[hz,Zby g6];exact List.getElem_mem g6);have HV:=gj.out _ z g3.out;clear hz ck
   by_cases g0:0<=z/\z<(n:Int)
   .
    rw[decide_eq_true g0] at HV;have g9:=Hd HV;obtain⟨l,hl,hg⟩:=HT.out.m;have HL:=Hd hl;have HG:=Hd hg;have gt:Hid (∀ q,q<j+1->0<=at0 zs q/\at0 zs q<(n:Int)):=Hd fun q hq=>by
     rcases Nat.lt_or_ge q j with h|h
     . exact HQ.out q h
     .
      obtain rfl:q=j:=by omega
      rw[<- go.out];exact g0
    clear HV hl hg g0;go_wp2_with fail;refine g9.out.mono ?_;rintro x w' ⟨rfl,rfl⟩;go_wp2_with (refine Zda (l:=l) rfl _ _ _ rfl kI underlying158 z (.bool true) rfl rfl rfl HL.out ?_;intro w9 ge gf);have g7:Wr (fun q=>q=w1.heap.size) wr w9:=Wr.of_grown gf _ (fun q hq=>by cases hq;rfl);have gw:Hid (Below w.heap.size w w9):=Hd (g3.out.trans (g7.below (fun q hq=>by have:=gp.out;omega) g3.out.size))
    have gs:Hid (Zjk (w1.heap.size+1) w1.heap.size (zs.take (j+1)) w9):=Hd (by
     refine⟨(World.cell?_of_block (w:=wr) (a:=⟨w1.heap.size+1,0,none⟩) (g7.keep _ (Zaa HT.out.c) (by show ¬ w1.heap.size+1=w1.heap.size;omega))).trans HT.out.c,_,ge,fun u=>?_⟩;rw[Zki HL.out.nodup,HG.out,gr.out]
     by_cases e:u=z
     . subst e;simp
     . rw[if_neg e];simp[List.mem_append,e])
    clear ge gf g7 HL HG HT;go_wp2_with fail;go_roundw
    case rel=>exact⟨j+1,by omega,by go_num,gw,gs,gt⟩
    case measure=>simp[intOf];omega
   . rw[decide_eq_false g0] at HV;have g9:=Hd HV;have HF:=Hd (gb.out z wr gv.out g0 g3.out);clear HV g0;go_wp2_with fail;refine g9.out.mono ?_;rintro x w' ⟨rfl,rfl⟩;go_wp2_with fail;exact HF.out
  .
   obtain rfl:j=zs.length:=by omega
   have gn:¬ (zs.length:Int)<(zs.length:Int):=by omega
   have HO:=Hd (gu.out wr g3.out (by have:=HT.out;rwa [List.take_length] at this) HQ.out);clear HT HQ;go_wp2_with fail;refine HO.out.mono ?_;rintro x w' ⟨p,q,rfl,hp⟩;have HF:=Hd hp;clear hp HO;go_wp2_with fail;exact HF.out
end
open Go.RowKit
theorem Zja (args:Array Value)(w:World):(callFunc 92 args).run prog w=.ok (.enter 92 args) w:=enters_of func92 (by kernel_rfl) rfl args w
def Zcv (v:Int)(F:BF):BF:=if 0<=v then Zd0 (sigF [v]) F else F
def Zeh (kind v:Int)(P Q F:BF):BF:=if kind=0 then orF Q (andF P (Zcv v F)) else if kind=1 then andF P (orF Q (Zcv v F)) else Zcf (Zcv v F) Q P
def NxB (bm bs bf bg mb:Nat)(kind v kf kg:Int):World->Own->Prop:=fun W o=>BoxA bm 0 (.pointer (some ⟨mb,0,none⟩)) W o/\BoxA bs 0 (.int .i64 kind) W o/\BoxA bs 3 (.int .i64 v) W o/\BoxA bf 0 (.int .i64 kf) W o/\BoxA bg 0 (.int .i64 kg) W o
theorem NxB.keepB {bm bs bf bg mb:Nat}{kind v kf kg:Int}:Zdf (NxB bm bs bf bg mb kind v kf kg):=BoxA.keep.and (BoxA.keep.and (BoxA.keep.and (BoxA.keep.and BoxA.keep)))
section
variable {K:Law}{n room L:Nat}{w0 w wb W:World}{mb:Nat}{fs:List (Int×BF)}{nx:Int}{o0:Own}{ws0:List Ev}{C:Nat->Prop}{B:World->Own->Prop}{kind v kf kg:Int}{P Q:BF}
theorem FxS.flip1 (hK:Zbh K)(hB:Zdf B)(h:FxS K n room w0 mb ws0 C o0 wb B fs nx W){k v:Int}{F:BF}(hk:(k,F)∈fs)(hv:0<=v/\v<(n:Int))(hn:nx<=549755813888)(hr:fs.length*2^n+(2^n-1)*(2^n+1)<=room){T:World}(hT:T=W.alloc (.cells #[.int .i64 v] 3)) :
 Calls prog 93 #[.pointer (some ⟨mb,0,none⟩),.int .i64 k,.slice (some ⟨W.heap.size,0,none⟩) 1 1] T fun x w'=>x=.returned (.tuple #[.int .i64 nx,.int .i64 0])/\FxS K n room w0 mb ws0 C o0 wb B (fs++[(nx,Zd0 (sigF [v]) F)]) (nx+1) w':=by
 subst hT;have hb:=Zad W (.cells #[.int .i64 v] 3);obtain⟨o,m,V,q1,q2,q3,q4⟩:=h;have hc:=ChgX.of_below hb o NoB;refine(Zq5 (c:=1) (zs:=[v]) hK (q3.below hb) hk (Zet W [v] (by simp)) q2 hn hr).mono ?_;rintro x w' ⟨hx,_⟩;obtain⟨r1,o',m',V',r2,r3,r4⟩:=hx (by simpa using hv);exact⟨r1,o',m',V',(q1.trans hc NoB.sub).trans r2 NoB.sub,r3,r4,hB _ _ _ _ q4 (hc.trans r2 NoB.sub)⟩
theorem FxS.ite (hK:Zbh K)(hB:Zdf B)(h:FxS K n room w0 mb ws0 C o0 wb B fs nx W){k1 k2 k3:Int}{F1 F2 F3:BF}(h1:(k1,F1)∈fs)(h2:(k2,F2)∈fs)(h3:(k3,F3)∈fs)(hn:nx<=549755813888)(hr:(fs.length+1)*2^n<=room) :
 Calls prog 83 #[.pointer (some ⟨mb,0,none⟩),.int .i64 k1,.int .i64 k2,.int .i64 k3] W fun x w'=>x=.returned (.tuple #[.int .i64 nx,.int .i64 0])/\FxS K n room w0 mb ws0 C o0 wb B (fs++[(nx,Zcf F1 F2 F3)]) (nx+1) w' :=
 h.new hB fun o m V hw hs=>(Ybr hK hs hw hn hr h1 h2 h3).mono fun x w' ⟨q1,o',m',V',q2,q3,q4⟩=>⟨q1,o',m',V',q2,q3,q4⟩
theorem Ybw (hK:Zbh K){bm bs bf bg:Nat}(hv:v<(n:Int))(hr:(L+4)*2^n+(2^n-1)*(2^n+1)<=room) :
 FunC K n room w0 mb ws0 L C (fun _=>NxB bm bs bf bg mb kind v kf kg) [(kf,P),(kg,Q)] 92 #[.pointer (some ⟨bm,0,none⟩),.pointer (some ⟨bs,0,none⟩),.pointer (some ⟨bf,0,none⟩),.pointer (some ⟨bg,0,none⟩)] (Zeh kind v P Q) (fun _=>0) 5:=by
 refine⟨Zja,fun _=>NxB.keepB,by omega,fun j _ o0 wb W fs nx h F g6 hb g7 hk hn hl=>?_⟩;have hP:(kf,P)∈fs:=g7 _ (by simp);have hQ:(kg,Q)∈fs:=g7 _ (by simp);have HB2:=Hd hb;have HK:=Hd hK;have g1:=Hd (show (kf,P)∈fs/\(kg,Q)∈fs/\(h,F)∈fs from ⟨hP,hQ,hk⟩);have g3:Hid (∀ l,l<=L+4->l*2^n<=room):=Hd fun l hl=>Nat.le_trans (Nat.le_trans (Nat.mul_le_mul_right _ hl) (Nat.le_add_right _ _)) hr
 have gb:Hid (fs.length*2^n+(2^n-1)*(2^n+1)<=room):=Hd (Nat.le_trans (Nat.add_le_add_right (Nat.mul_le_mul_right _ (by omega)) _) hr);have g4:=Hd hl;have ga:=Hd (g6.copy hK NxB.keepB (by omega) hk);obtain⟨PP,g8⟩:∃ PP:Ending->World->Prop,PP=fun e w'=>∃ p nx',e=.returned (.tuple #[.int .i64 p,.int .i64 0])/\nx<=nx'/\nx'<=nx+5 /\
  ((0:Int)=0->FxS K n room w0 mb ws0 C o0 wb (NxB bm bs bf bg mb kind v kf kg) (fs++[(p,Zeh kind v P Q F)]) nx' w')/\((0:Int)≠0->FxS K n room w0 mb ws0 C o0 wb (NxB bm bs bf bg mb kind v kf kg) fs nx' w'):=⟨_,rfl⟩
 have g2:Hid (∀ p nx' w',nx<=nx'->nx'<=nx+5->FxS K n room w0 mb ws0 C o0 wb (NxB bm bs bf bg mb kind v kf kg) (fs++[(p,Zeh kind v P Q F)]) nx' w'->PP (.returned (.tuple #[.int .i64 p,.int .i64 0])) w'):=Hd fun p nx' w' h1 h2 h3=>by rw[g8];exact⟨p,nx',rfl,h1,h2,fun _=>h3,fun e=>(e rfl).elim⟩
 have g0:Hid (∀ fs' nx' W',FxS K n room w0 mb ws0 C o0 wb (NxB bm bs bf bg mb kind v kf kg) fs' nx' W'->W'.cell? ⟨bm,0,none⟩=some (.pointer (some ⟨mb,0,none⟩))/\W'.cell? ⟨bs,0,none⟩=some (.int .i64 kind)/\W'.cell? ⟨bs,3,none⟩=some (.int .i64 v)/\W'.cell? ⟨bf,0,none⟩=some (.int .i64 kf)/\W'.cell? ⟨bg,0,none⟩=some (.int .i64 kg)):=Hd fun fs' nx' W' ⟨_,_,_,_,_,_,q1,q2,q3,q4,q5⟩=>⟨q1.1,q2.1,q3.1,q4.1,q5.1⟩
 obtain⟨a1,a2,a3,a4,a5⟩:=g0.out _ _ _ g6
 show Calls _ _ _ _ _
 rw[<- g8];clear g8 g6 hb g7 hk hP hQ hK hr hl
 show Calls _ _ #[_,_,_,_,_] _ _
 go_enter func92,ntmps92
 go_wp2_with fail;refine ga.out.mono ?_;rintro x w1 ⟨rfl,h1⟩;clear a1 a2 a3 a4 a5 ga;obtain⟨a1,a2,a3,a4,a5⟩:=g0.out _ _ _ h1
 by_cases g9:v>=0
 .
  have HS:=Hd h1;clear h1;have HC:=Hd (FxS.drop1 HK.out NxB.keepB (r:=[]) HB2.out HS.out (by omega) rfl);clear HS;go_wp2_with fail;refine HC.out.mono ?_;rintro x w2 ⟨rfl,hs⟩;clear HC a1 a2 a3 a4 a5;rw[List.append_nil] at hs;obtain⟨a1,a2,a3,a4,a5⟩:=g0.out _ _ _ hs;have HS:=Hd hs;clear hs;have HC:=Hd (FxS.flip1 HK.out NxB.keepB HS.out (k:=h) (v:=v) (F:=F) g1.out.2.2 ⟨g9,hv⟩ (by omega) gb.out rfl);clear HS;go_wp2_with fail;refine HC.out.mono ?_;rintro x wf ⟨rfl,hs⟩;clear HC a1 a2 a3 a4 a5;rw[show Zd0 (sigF [v]) F=Zcv v F from (if_pos g9).symm] at hs;obtain⟨a1,a2,a3,a4,a5⟩:=g0.out _ _ _ hs;have HS:=Hd hs;clear hs
  by_cases k0:kind=0
  . subst k0;have HC:=Hd (FxS.and2 HK.out NxB.keepB HS.out (k1:=kf) (k2:=(nx+1)) (F1:=P) (F2:=Zcv v F) (List.mem_append_left _ g1.out.1) (by simp) (by omega) (g3.out _ (by have:=g4.out;simp;omega)) rfl);clear HS;go_wp2_with fail;refine HC.out.mono ?_;rintro x w3 ⟨rfl,hs⟩;clear HC a1 a2 a3 a4 a5;obtain⟨a1,a2,a3,a4,a5⟩:=g0.out _ _ _ hs;have HS:=Hd hs;clear hs;have HC:=Hd (FxS.or2 HK.out NxB.keepB HS.out (k1:=kg) (k2:=(nx+1+1)) (F1:=Q) (F2:=andF P (Zcv v F)) (List.mem_append_left _ (List.mem_append_left _ g1.out.2.1)) (by simp) (by omega) (g3.out _ (by have:=g4.out;simp;omega)) rfl);clear HS;go_wp2_with fail;refine HC.out.mono ?_;rintro x w4 ⟨rfl,hs⟩;clear HC a1 a2 a3 a4 a5;rw[List.append_assoc] at hs;obtain⟨a1,a2,a3,a4,a5⟩:=g0.out _ _ _ hs;have HS:=Hd hs;clear hs;have HC:=Hd (FxS.drop1 HK.out NxB.keepB (HB2.out.app _) HS.out (by omega) rfl);clear HS;go_wp2_with fail;refine HC.out.mono ?_;rintro x w5 ⟨rfl,hs⟩;clear HC a1 a2 a3 a4 a5;rw[List.append_assoc] at hs;obtain⟨a1,a2,a3,a4,a5⟩:=g0.out _ _ _ hs;have HS:=Hd hs;clear hs;have HC:=Hd (FxS.drop1 HK.out NxB.keepB HB2.out HS.out (by omega) rfl);clear HS;go_wp2_with fail;refine HC.out.mono ?_;rintro x w6 ⟨rfl,hs⟩;clear HC a1 a2 a3 a4 a5;obtain⟨a1,a2,a3,a4,a5⟩:=g0.out _ _ _ hs;have HS:=Hd hs;clear hs;have HF:=Hd (g2.out ((nx+1+1)+1) ((nx+1+1)+1+1) w6 (by omega) (by omega) (by rw[show Zeh 0 v P Q F=orF Q (andF P (Zcv v F)) from if_pos rfl];exact HS.out));clear HS g2 a1 a2 a3 a4 a5;go_wp2_with fail;exact HF.out
  by_cases k1:kind=1
  . subst k1;have k0z:((1:Int) == 0)=false:=rfl;have HC:=Hd (FxS.or2 HK.out NxB.keepB HS.out (k1:=kg) (k2:=(nx+1)) (F1:=Q) (F2:=Zcv v F) (List.mem_append_left _ g1.out.2.1) (by simp) (by omega) (g3.out _ (by have:=g4.out;simp;omega)) rfl);clear HS;go_wp2_with fail;refine HC.out.mono ?_;rintro x w3 ⟨rfl,hs⟩;clear HC a1 a2 a3 a4 a5;obtain⟨a1,a2,a3,a4,a5⟩:=g0.out _ _ _ hs;have HS:=Hd hs;clear hs;have HC:=Hd (FxS.and2 HK.out NxB.keepB HS.out (k1:=kf) (k2:=(nx+1+1)) (F1:=P) (F2:=orF Q (Zcv v F)) (List.mem_append_left _ (List.mem_append_left _ g1.out.1)) (by simp) (by omega) (g3.out _ (by have:=g4.out;simp;omega)) rfl);clear HS;go_wp2_with fail;refine HC.out.mono ?_;rintro x w4 ⟨rfl,hs⟩;clear HC a1 a2 a3 a4 a5;rw[List.append_assoc] at hs;obtain⟨a1,a2,a3,a4,a5⟩:=g0.out _ _ _ hs;have HS:=Hd hs;clear hs;have HC:=Hd (FxS.drop1 HK.out NxB.keepB (HB2.out.app _) HS.out (by omega) rfl);clear HS;go_wp2_with fail;refine HC.out.mono ?_;rintro x w5 ⟨rfl,hs⟩;clear HC a1 a2 a3 a4 a5;rw[List.append_assoc] at hs;obtain⟨a1,a2,a3,a4,a5⟩:=g0.out _ _ _ hs;have HS:=Hd hs;clear hs;have HC:=Hd (FxS.drop1 HK.out NxB.keepB HB2.out HS.out (by omega) rfl);clear HS;go_wp2_with fail;refine HC.out.mono ?_;rintro x w6 ⟨rfl,hs⟩;clear HC a1 a2 a3 a4 a5;obtain⟨a1,a2,a3,a4,a5⟩:=g0.out _ _ _ hs;have HS:=Hd hs;clear hs;have HF:=Hd (g2.out ((nx+1+1)+1) ((nx+1+1)+1+1) w6 (by omega) (by omega) (by rw[show Zeh 1 v P Q F=andF P (orF Q (Zcv v F)) by unfold Zeh;rw[if_neg (by omega),if_pos rfl]];exact HS.out));clear HS g2 a1 a2 a3 a4 a5;go_wp2_with fail;exact HF.out
  have k0z:(kind == 0)=false:=by simpa using k0
  have k1z:(kind == 1)=false:=by simpa using k1
  have g5:=Hd (show kind≠0/\kind≠1 from ⟨k0,k1⟩);clear k0 k1;have HC:=Hd (FxS.ite HK.out NxB.keepB HS.out (k1:=(nx+1)) (k2:=kg) (k3:=kf) (F1:=Zcv v F) (F2:=Q) (F3:=P) (by simp) (List.mem_append_left _ g1.out.2.1) (List.mem_append_left _ g1.out.1) (by omega) (g3.out _ (by have:=g4.out;simp;omega)));clear HS;go_wp2_with fail;refine HC.out.mono ?_;rintro x w4 ⟨rfl,hs⟩;clear HC a1 a2 a3 a4 a5;rw[List.append_assoc] at hs;obtain⟨a1,a2,a3,a4,a5⟩:=g0.out _ _ _ hs;have HS:=Hd hs;clear hs;have HC:=Hd (FxS.drop1 HK.out NxB.keepB HB2.out HS.out (by omega) rfl);clear HS;go_wp2_with fail;refine HC.out.mono ?_;rintro x w6 ⟨rfl,hs⟩;clear HC a1 a2 a3 a4 a5;obtain⟨a1,a2,a3,a4,a5⟩:=g0.out _ _ _ hs;have HS:=Hd hs;clear hs;have HF:=Hd (g2.out (nx+1+1) ((nx+1+1)+1) w6 (by omega) (by omega) (by rw[show Zeh kind v P Q F=Zcf (Zcv v F) Q P by unfold Zeh;rw[if_neg g5.out.1,if_neg g5.out.2]];exact HS.out));clear HS g2 a1 a2 a3 a4 a5;go_wp2_with fail;exact HF.out
 .
  rw[show F=Zcv v F from (if_neg (by omega)).symm] at h1;have HS:=Hd h1;have gc:¬ 0<=v:=by omega
  clear h1 hv
  by_cases k0:kind=0
  . subst k0;have HC:=Hd (FxS.and2 HK.out NxB.keepB HS.out (k1:=kf) (k2:=nx) (F1:=P) (F2:=Zcv v F) (List.mem_append_left _ g1.out.1) (by simp) (by omega) (g3.out _ (by have:=g4.out;simp;omega)) rfl);clear HS;go_wp2_with fail;refine HC.out.mono ?_;rintro x w3 ⟨rfl,hs⟩;clear HC a1 a2 a3 a4 a5;obtain⟨a1,a2,a3,a4,a5⟩:=g0.out _ _ _ hs;have HS:=Hd hs;clear hs;have HC:=Hd (FxS.or2 HK.out NxB.keepB HS.out (k1:=kg) (k2:=(nx+1)) (F1:=Q) (F2:=andF P (Zcv v F)) (List.mem_append_left _ (List.mem_append_left _ g1.out.2.1)) (by simp) (by omega) (g3.out _ (by have:=g4.out;simp;omega)) rfl);clear HS;go_wp2_with fail;refine HC.out.mono ?_;rintro x w4 ⟨rfl,hs⟩;clear HC a1 a2 a3 a4 a5;rw[List.append_assoc] at hs;obtain⟨a1,a2,a3,a4,a5⟩:=g0.out _ _ _ hs;have HS:=Hd hs;clear hs;have HC:=Hd (FxS.drop1 HK.out NxB.keepB (HB2.out.app _) HS.out (by omega) rfl);clear HS;go_wp2_with fail;refine HC.out.mono ?_;rintro x w5 ⟨rfl,hs⟩;clear HC a1 a2 a3 a4 a5;rw[List.append_assoc] at hs;obtain⟨a1,a2,a3,a4,a5⟩:=g0.out _ _ _ hs;have HS:=Hd hs;clear hs;have HC:=Hd (FxS.drop1 HK.out NxB.keepB HB2.out HS.out (by omega) rfl);clear HS;go_wp2_with fail;refine HC.out.mono ?_;rintro x w6 ⟨rfl,hs⟩;clear HC a1 a2 a3 a4 a5;obtain⟨a1,a2,a3,a4,a5⟩:=g0.out _ _ _ hs;have HS:=Hd hs;clear hs;have HF:=Hd (g2.out ((nx+1)+1) ((nx+1)+1+1) w6 (by omega) (by omega) (by rw[show Zeh 0 v P Q F=orF Q (andF P (Zcv v F)) from if_pos rfl];exact HS.out));clear HS g2 a1 a2 a3 a4 a5;go_wp2_with fail;exact HF.out
  by_cases k1:kind=1
  . subst k1;have k0z:((1:Int) == 0)=false:=rfl;have HC:=Hd (FxS.or2 HK.out NxB.keepB HS.out (k1:=kg) (k2:=nx) (F1:=Q) (F2:=Zcv v F) (List.mem_append_left _ g1.out.2.1) (by simp) (by omega) (g3.out _ (by have:=g4.out;simp;omega)) rfl);clear HS;go_wp2_with fail;refine HC.out.mono ?_;rintro x w3 ⟨rfl,hs⟩;clear HC a1 a2 a3 a4 a5;obtain⟨a1,a2,a3,a4,a5⟩:=g0.out _ _ _ hs;have HS:=Hd hs;clear hs;have HC:=Hd (FxS.and2 HK.out NxB.keepB HS.out (k1:=kf) (k2:=(nx+1)) (F1:=P) (F2:=orF Q (Zcv v F)) (List.mem_append_left _ (List.mem_append_left _ g1.out.1)) (by simp) (by omega) (g3.out _ (by have:=g4.out;simp;omega)) rfl);clear HS;go_wp2_with fail;refine HC.out.mono ?_;rintro x w4 ⟨rfl,hs⟩;clear HC a1 a2 a3 a4 a5;rw[List.append_assoc] at hs;obtain⟨a1,a2,a3,a4,a5⟩:=g0.out _ _ _ hs;have HS:=Hd hs;clear hs;have HC:=Hd (FxS.drop1 HK.out NxB.keepB (HB2.out.app _) HS.out (by omega) rfl);clear HS;go_wp2_with fail;refine HC.out.mono ?_;rintro x w5 ⟨rfl,hs⟩;clear HC a1 a2 a3 a4 a5;rw[List.append_assoc] at hs;obtain⟨a1,a2,a3,a4,a5⟩:=g0.out _ _ _ hs;have HS:=Hd hs;clear hs;have HC:=Hd (FxS.drop1 HK.out NxB.keepB HB2.out HS.out (by omega) rfl);clear HS;go_wp2_with fail;refine HC.out.mono ?_;rintro x w6 ⟨rfl,hs⟩;clear HC a1 a2 a3 a4 a5;obtain⟨a1,a2,a3,a4,a5⟩:=g0.out _ _ _ hs;have HS:=Hd hs;clear hs;have HF:=Hd (g2.out ((nx+1)+1) ((nx+1)+1+1) w6 (by omega) (by omega) (by rw[show Zeh 1 v P Q F=andF P (orF Q (Zcv v F)) by unfold Zeh;rw[if_neg (by omega),if_pos rfl]];exact HS.out));clear HS g2 a1 a2 a3 a4 a5;go_wp2_with fail;exact HF.out
  have k0z:(kind == 0)=false:=by simpa using k0
  have k1z:(kind == 1)=false:=by simpa using k1
  have g5:=Hd (show kind≠0/\kind≠1 from ⟨k0,k1⟩);clear k0 k1;have HC:=Hd (FxS.ite HK.out NxB.keepB HS.out (k1:=nx) (k2:=kg) (k3:=kf) (F1:=Zcv v F) (F2:=Q) (F3:=P) (by simp) (List.mem_append_left _ g1.out.2.1) (List.mem_append_left _ g1.out.1) (by omega) (g3.out _ (by have:=g4.out;simp;omega)));clear HS;go_wp2_with fail;refine HC.out.mono ?_;rintro x w4 ⟨rfl,hs⟩;clear HC a1 a2 a3 a4 a5;rw[List.append_assoc] at hs;obtain⟨a1,a2,a3,a4,a5⟩:=g0.out _ _ _ hs;have HS:=Hd hs;clear hs;have HC:=Hd (FxS.drop1 HK.out NxB.keepB HB2.out HS.out (by omega) rfl);clear HS;go_wp2_with fail;refine HC.out.mono ?_;rintro x w6 ⟨rfl,hs⟩;clear HC a1 a2 a3 a4 a5;obtain⟨a1,a2,a3,a4,a5⟩:=g0.out _ _ _ hs;have HS:=Hd hs;clear hs;have HF:=Hd (g2.out (nx+1) ((nx+1)+1) w6 (by omega) (by omega) (by rw[show Zeh kind v P Q F=Zcf (Zcv v F) Q P by unfold Zeh;rw[if_neg g5.out.1,if_neg g5.out.2]];exact HS.out));clear HS g2 a1 a2 a3 a4 a5;go_wp2_with fail;exact HF.out
end
open Go.RowKit
def RefA (n:Nat)(F:BF)(w:World)(e:Ending)(w':World):Prop:=∃ v,e=.returned v/\TabA n w' v F/\Below w.heap.size w w'
theorem Zxg (v:Nat)(F:BF):Zcf (varF v) (cofF F v false) (cofF F v true)=Zd0 (sigF [(v:Int)]) F:=by
 funext ρ
 show iteB (ρ v) (F fun u=>if u=v then false else ρ u) (F fun u=>if u=v then true else ρ u)=F fun u=>sigF [(v:Int)] u ρ
 have key:∀ b,ρ v = !b->(fun u=>if u=v then b else ρ u)=fun u=>sigF [(v:Int)] u ρ:=fun b hb=>funext fun u=>by
  show (if u=v then b else ρ u)=(if (u:Int)∈[(v:Int)] then notF (varF u) else varF u) ρ
  by_cases e:u=v
  .
   subst e;rw[if_pos rfl,if_pos (by simp)]
   show b = !ρ u
   rw[hb];simp
  . rw[if_neg e,if_neg (by simp only[List.mem_singleton];omega)];rfl
 cases hv:ρ v with
 | true =>
   show F _=_
   rw[key false (by rw[hv];rfl)]
 | false =>
   show F _=_
   rw[key true (by rw[hv];rfl)]
section
variable {n:Nat}{w w':World}{x y:Value}{F G P Q:BF}
theorem Zkt {b:Bool}(h1:TabA n w x F)(h2:TabA n w y G)(d1:DepF n F)(d2:DepF n G)(hb:b=true↔F=G):Calls prog 98 #[x,y] w fun e w'=>e=.returned (.bool b)/\Below w.heap.size w w':=by
 obtain⟨a,c,rfl,k1⟩:=h1;obtain⟨a2,c2,rfl,k2⟩:=h2;have:=Zni (tabB n F) (tabB n G) (by simp[Za6]) a a2 c c2 w k1 k2;rw[Za6] at this;refine this.mono ?_;rintro e w' ⟨rfl,g0⟩;refine⟨?_,g0⟩;rw[show decide (tabB n F=tabB n G)=b from ?_];rw[Bool.eq_iff_iff,decide_eq_true_iff,hb];exact⟨fun e=>Ya9 d1 d2 e,fun e=>by rw[e]⟩
theorem Zy3 (hn:n<=16){a:Option Addr}{c:Nat}:Calls prog 202 #[.slice a (2^n) c] w fun e w'=>e=.returned (.int .i64 n)/\w=w':=by
 have hp:2^n<=65536:=Nat.pow_le_pow_right (n:=2) (by omega) hn;obtain⟨L,hL⟩:∃ L,L=2^n:=⟨_,rfl⟩;have HL:=Hd hL;rw[<- hL] at hp ⊢;clear hL
 go_enter func202,ntmps202
 go_wp2_with fail
 go_loopw [3,4] (fun s3 s4 wr=>∃ j p:Nat,j<=n/\p<=65536/\s3=.int .i64 j/\s4=.int .i64 p/\Hid (p=2^j)/\Hid (w=wr)) (fun s3 _ _=>n-(intOf s3).toNat)
 case atStart=>exact⟨0,1,Nat.zero_le _,by omega,rfl,rfl,Hd rfl,Hd rfl⟩
 case round =>
  obtain⟨j,p,hj,hp2,rfl,rfl,HP,HW⟩:=hrel
  by_cases g0:j<n
  .
   have h1:p<L:=by rw[HP.out,HL.out];exact Nat.pow_lt_pow_right (by omega) g0
   have h2:2*p<=65536:=by
    have:2*p=2^(j+1):=by rw[HP.out,Nat.pow_succ];omega
    rw[this];exact Nat.le_trans (Nat.pow_le_pow_right (n:=2) (by omega) (show j+1<=n by omega)) (by rw[<- HL.out];exact hp)
   have g1:(p:Int)<(L:Int):=by omega
   have HJ:=Hd g0;clear g0 h1;go_wp2_with fail;go_roundw
   case rel=>exact⟨j+1,2*p,HJ.out,h2,by go_num,by go_num,Hd (by rw[HP.out,Nat.pow_succ];omega),HW⟩
   case measure=>have:=HJ.out;simp[intOf];omega
  .
   obtain rfl:j=n:=by omega
   have g1:¬ (p:Int)<(L:Int):=by
    have:p=L:=by rw[HP.out,HL.out]
    omega
   have HF:=HW;go_wp2_with fail;go_ret;exact⟨rfl,HF.out⟩
theorem Zp3 (hn:n<=16){v:Int}(hv:v<(n:Int))(h:TabA n w x F):Calls prog 154 #[x,.int .i64 v] w (RefA n (Zcv v F) w):=by
 obtain⟨a,c,rfl,h1⟩:=h
 by_cases go:v<0
 .
  have HF:Hid (RefA n (Zcv v F) w (.returned (.slice a (2^n) c)) w):=Hd ⟨_,rfl,⟨a,c,rfl,by rw[show Zcv v F=F from if_neg (by omega)];exact h1⟩,Below.refl _ _⟩;clear h1
  go_enter func154,ntmps154
  go_wp2_with fail;go_ret;exact HF.out
 .
  obtain⟨k,rfl⟩:∃ k:Nat,v=(k:Int):=⟨v.toNat,by omega⟩;have hk:k<n:=by omega
  have gf:=Hd (Zy3 (n:=n) hn (a:=a) (c:=c) (w:=w));have gg:=Hd (Ztj k n hk hn w);have H1:=Hd h1;have HE:=Hd (Zxg k F);have gn:Hid (Zcv (k:Int) F=Zd0 (sigF [(k:Int)]) F):=Hd (if_pos (by omega));clear h1
  go_enter func154,ntmps154
  go_wp2_with fail;refine gf.out.mono ?_;rintro e w' ⟨rfl,rfl⟩;go_wp2_with fail;refine gg.out.mono ?_;rintro e w1 ⟨g1,rfl,gc,g6⟩
  have gi:Hid (Zbz w1 (some ⟨g1,0,none⟩) (tabB n (varF k))):=Hd (by
   obtain⟨a',c',e',h⟩:=TabA.is (gc.boolsIs (by rw[Za6];exact tabs16 hn));injection e' with e1 _ _
   rw[e1];exact h)
  have gl:=Hd (Zma n F k false hn hk a c w1 (H1.out.below g6));have g8:=Hd g6;clear gc g6 gg gf;go_wp2_with fail;refine gl.out.mono ?_;rintro e w2 ⟨g2,rfl,gb,g5⟩
  have gh:Hid (Zbz w2 (some ⟨g2,0,none⟩) (tabB n (cofF F k false))):=Hd (by
   obtain⟨a',c',e',h⟩:=TabA.is gb;injection e' with e1 _ _
   rw[e1];exact h)
  have g7:=Hd (gi.out.below g5);have HB2:=Hd (g8.out.trans (g5.mono g8.out.size));have gk:=Hd (Zma n F k true hn hk a c w2 (H1.out.below HB2.out));clear gb g5 gl gi g8;go_wp2_with fail;refine gk.out.mono ?_;rintro e w3 ⟨g3,rfl,ga,g0⟩;have ge:Zbz w3 (some ⟨g3,0,none⟩) (tabB n (cofF F k true)):=by
   obtain⟨a',c',e',h⟩:=TabA.is ga;injection e' with e1 _ _
   rw[e1];exact h
  have gj:=Hd (Zmb n (varF k) (cofF F k false) (cofF F k true) _ _ _ (2^n) (2^n) (2^n) w3 (g7.out.below g0) (gh.out.below g0) ge);have gm:=Hd (HB2.out.trans (g0.mono HB2.out.size));clear ga g0 ge gk g7 gh HB2;go_wp2_with fail;refine gj.out.mono ?_;rintro e w4 ⟨g4,rfl,g9,gd⟩
  have HF:Hid (RefA n (Zcv (k:Int) F) w (.returned (.slice (some ⟨g4,0,none⟩) (2^n) (2^n))) w4):=Hd (by
   rw[gn.out,<- HE.out];exact⟨_,rfl,TabA.is (g9.boolsIs (by rw[Za6];exact tabs16 hn)),gm.out.trans (gd.mono gm.out.size)⟩)
  clear g9 gd gj;go_wp2_with fail;go_ret;exact HF.out
def Zik (kind:Int)(vp vq:Value)(v:Int):Value:=.agg #[.int .i64 kind,vp,vq,.int .i64 v]
theorem Zl4 (hn:n<=16){kind v:Int}(hv:v<(n:Int)){vp vq:Value}(hp:TabA n w vp P)(hq:TabA n w vq Q)(hx:TabA n w x F):Calls prog 96 #[Zik kind vp vq v,x] w (RefA n (Zeh kind v P Q F) w):=by
 obtain⟨w1,gc⟩:∃ w1,w1=w.alloc (.cells #[.int .i64 kind,vp,vq,.int .i64 v] 57):=⟨_,rfl⟩;have HW1:Hid (_=w1):=Hd gc.symm;have g8:Below w.heap.size w w1:=by rw[gc];exact Zad _ _
 have g4:w1.heap[w.heap.size]?=some (.cells #[.int .i64 kind,vp,vq,.int .i64 v] 57 (0,0)):=by rw[gc];exact heap_alloc_new _ _
 have gm:=Hd (Zp3 hn hv (hx.below g8));have gl:=TabA.below hp g8;have gk:=TabA.below hq g8;obtain⟨pa,pc,rfl,_⟩:=hp;obtain⟨qa,qc,rfl,_⟩:=hq;have c0:w1.cell? ⟨w.heap.size,0,none⟩=some (.int .i64 kind):=by rw[cell_of_row _ _ 0 _ _ _ g4];rfl
 have c1:w1.cell? ⟨w.heap.size,1,none⟩=some (.slice pa (2^n) pc):=by rw[cell_of_row _ _ 1 _ _ _ g4];rfl
 have c2:w1.cell? ⟨w.heap.size,2,none⟩=some (.slice qa (2^n) qc):=by rw[cell_of_row _ _ 2 _ _ _ g4];rfl
 have c3:w1.cell? ⟨w.heap.size,3,none⟩=some (.int .i64 v):=by rw[cell_of_row _ _ 3 _ _ _ g4];rfl
 have gh:=Hd g8;have go:=Hd gl;have gn:=Hd gk;obtain⟨PP,gd⟩:∃ PP:Ending->World->Prop,PP=RefA n (Zeh kind v P Q F) w:=⟨_,rfl⟩;have gf:=Hd gd;unfold Zik;rw[<- gd];clear gc g8 g4 gl gk hx gd
 go_enter func96,ntmps96
 go_upto_region 1 with fail;rw[HW1.out];go_wp2_with fail;refine gm.out.mono ?_;rintro e w2 ⟨u,rfl,hu,g5⟩;have HB2:=Hd (gh.out.trans (g5.mono gh.out.size));have hp2:=TabA.below go.out g5;have gj:=TabA.below gn.out g5;have gg:=Hd hp2;have ge:=Hd gj;have HU:=Hd hu;have d0:=(g5.cell (p:=⟨w.heap.size,0,none⟩) (Zaa c0)).trans c0;have d1:=(g5.cell (p:=⟨w.heap.size,1,none⟩) (Zaa c1)).trans c1;have d2:=(g5.cell (p:=⟨w.heap.size,2,none⟩) (Zaa c2)).trans c2;obtain⟨ua,uc,rfl,_⟩:=hu;clear g5 hp2 gj gm go gn gh c0 c1 c2 c3
 by_cases k0:kind=0
 .
  subst k0;have g2:Below w2.heap.size w2 w2.drew:=Zaf w2 1;have e1:w2.drew.cell? ⟨w.heap.size,1,none⟩=some (.slice pa (2^n) pc):=d1;have e2:w2.drew.cell? ⟨w.heap.size,2,none⟩=some (.slice qa (2^n) qc):=d2;have gb:=Hd (Zqz hn (TabA.below gg.out g2) (TabA.below HU.out g2));have g3:=Hd g2;clear g2;go_upto_region 3 with fail;refine Zfz [0,1,2,3,4,5,6,7] (fun W=>W.cell? ⟨w.heap.size,1,none⟩=some (.slice pa (2^n) pc)/\W.cell? ⟨w.heap.size,2,none⟩=some (.slice qa (2^n) qc)) (fun ch w'=>False) (fun c a w hd h=>h.elim) (by kernel_rfl) ⟨e1,e2⟩ ?_
  iterate 5
   refine Zdt rfl rfl (by kernel_rfl) ?_;apply Exists.intro;refine⟨fun w' hw=>?_,?_⟩
   . obtain⟨q1,q2⟩:=hw;go_simp;rfl
   simp only[Zah]
  refine Zd7 (R1:=fun u w'=>(∃ a c,u=.slice a (2^n) c/\TabA n w' u (andF P (Zcv v F)))/\Below w2.drew.heap.size w2.drew w') rfl (by kernel_rfl) rfl rfl (by go_simp) (gb.out.mono fun x w' ⟨u,h1,h2,h3⟩=>⟨u,h1,⟨by
   have:=TabA.is h2;obtain⟨a,c,e,h⟩:=this;exact⟨a,c,e,a,c,e,h⟩,h3⟩⟩) (by rintro u w' ⟨_,hb⟩;exact⟨(hb.cell (p:=⟨w.heap.size,1,none⟩) (Zaa e1)).trans e1,(hb.cell (p:=⟨w.heap.size,2,none⟩) (Zaa e2)).trans e2⟩) ?_
  rintro u w3 hS ⟨⟨ta,tc,rfl,ht⟩,g1⟩;have g9:=Hd (Zwe hn (TabA.below ge.out (g3.out.trans (g1.mono g3.out.size))) ht);have ga:=Hd (HB2.out.trans ((g3.out.trans (g1.mono g3.out.size)).mono HB2.out.size));have g0:=Hd hS;clear hS ht g1 gb e1 e2;simp only[Zah];refine Zd7 (R1:=fun u w'=>TabA n w' u (orF Q (andF P (Zcv v F)))/\Below w3.heap.size w3 w') rfl (by kernel_rfl) rfl rfl (by go_simp) (g9.out.mono fun x w' ⟨u,h1,h2,h3⟩=>⟨u,h1,TabA.is h2,h3⟩) (by rintro u w' ⟨_,hb⟩;exact⟨(hb.cell (p:=⟨w.heap.size,1,none⟩) (Zaa g0.out.1)).trans g0.out.1,(hb.cell (p:=⟨w.heap.size,2,none⟩) (Zaa g0.out.2)).trans g0.out.2⟩) ?_;rintro u w4-⟨g6,g7⟩;have HF:Hid (PP (.returned u) w4):=Hd (by rw[gf.out];exact⟨u,rfl,by rw[show Zeh 0 v P Q F=orF Q (andF P (Zcv v F)) from if_pos rfl];exact g6,ga.out.trans (g7.mono ga.out.size)⟩);clear g6 g7 g9 g0;simp only[Zah];refine Zdt rfl rfl (by kernel_rfl) ?_;apply Exists.intro;refine⟨fun w' hw=>?_,?_⟩
  . go_simp;rfl
  simp only[Zah];refine Zks (by kernel_rfl) ?_;clear d0 d1 d2;go_wp2_with fail;exact HF.out
 have k0z:(kind == 0)=false:=by simpa using k0
 by_cases k1:kind=1
 .
  subst k1;have g2:Below w2.heap.size w2 w2.drew:=Zaf w2 1;have e1:w2.drew.cell? ⟨w.heap.size,1,none⟩=some (.slice pa (2^n) pc):=d1;have e2:w2.drew.cell? ⟨w.heap.size,2,none⟩=some (.slice qa (2^n) qc):=d2;have gb:=Hd (Zwe hn (TabA.below ge.out g2) (TabA.below HU.out g2));have g3:=Hd g2;clear g2 k0;go_upto_region 5 with fail;refine Zfz [0,1,2,3,4,5,6,7] (fun W=>W.cell? ⟨w.heap.size,1,none⟩=some (.slice pa (2^n) pc)/\W.cell? ⟨w.heap.size,2,none⟩=some (.slice qa (2^n) qc)) (fun ch w'=>False) (fun c a w hd h=>h.elim) (by kernel_rfl) ⟨e1,e2⟩ ?_
  iterate 5
   refine Zdt rfl rfl (by kernel_rfl) ?_;apply Exists.intro;refine⟨fun w' hw=>?_,?_⟩
   . obtain⟨q1,q2⟩:=hw;go_simp;rfl
   simp only[Zah]
  refine Zd7 (R1:=fun u w'=>(∃ a c,u=.slice a (2^n) c/\TabA n w' u (orF Q (Zcv v F)))/\Below w2.drew.heap.size w2.drew w') rfl (by kernel_rfl) rfl rfl (by go_simp) (gb.out.mono fun x w' ⟨u,h1,h2,h3⟩=>⟨u,h1,⟨by
   have:=TabA.is h2;obtain⟨a,c,e,h⟩:=this;exact⟨a,c,e,a,c,e,h⟩,h3⟩⟩) (by rintro u w' ⟨_,hb⟩;exact⟨(hb.cell (p:=⟨w.heap.size,1,none⟩) (Zaa e1)).trans e1,(hb.cell (p:=⟨w.heap.size,2,none⟩) (Zaa e2)).trans e2⟩) ?_
  rintro u w3 hS ⟨⟨ta,tc,rfl,ht⟩,g1⟩;have g9:=Hd (Zqz hn (TabA.below gg.out (g3.out.trans (g1.mono g3.out.size))) ht);have ga:=Hd (HB2.out.trans ((g3.out.trans (g1.mono g3.out.size)).mono HB2.out.size));have g0:=Hd hS;clear hS ht g1 gb e1 e2;simp only[Zah];refine Zd7 (R1:=fun u w'=>TabA n w' u (andF P (orF Q (Zcv v F)))/\Below w3.heap.size w3 w') rfl (by kernel_rfl) rfl rfl (by go_simp) (g9.out.mono fun x w' ⟨u,h1,h2,h3⟩=>⟨u,h1,TabA.is h2,h3⟩) (by rintro u w' ⟨_,hb⟩;exact⟨(hb.cell (p:=⟨w.heap.size,1,none⟩) (Zaa g0.out.1)).trans g0.out.1,(hb.cell (p:=⟨w.heap.size,2,none⟩) (Zaa g0.out.2)).trans g0.out.2⟩) ?_;rintro u w4-⟨g6,g7⟩;have HF:Hid (PP (.returned u) w4):=Hd (by rw[gf.out];exact⟨u,rfl,by rw[show Zeh 1 v P Q F=andF P (orF Q (Zcv v F)) by unfold Zeh;rw[if_neg (by omega),if_pos rfl]];exact g6,ga.out.trans (g7.mono ga.out.size)⟩);clear g6 g7 g9 g0;simp only[Zah];refine Zdt rfl rfl (by kernel_rfl) ?_;apply Exists.intro;refine⟨fun w' hw=>?_,?_⟩
  . go_simp;rfl
  simp only[Zah];refine Zks (by kernel_rfl) ?_;clear d0 d1 d2;go_wp2_with fail;exact HF.out
 have k1z:(kind == 1)=false:=by simpa using k1
 have HE:Hid (Zeh kind v P Q F=Zcf (Zcv v F) Q P):=Hd (by unfold Zeh;rw[if_neg k0,if_neg k1]);have gp:=Hd (Zwd hn HU.out ge.out gg.out);clear k0 k1;go_wp2_with fail;refine gp.out.mono ?_;rintro e w3 ⟨u3,rfl,gi,g1⟩;have HF:Hid (PP (.returned u3) w3):=Hd (by rw[gf.out];exact⟨u3,rfl,by rw[HE.out];exact TabA.is gi,HB2.out.trans (g1.mono HB2.out.size)⟩);clear gi g1 gp;go_wp2_with fail;exact HF.out
end
open Go.RowKit
open Go.RowKit
theorem LawF.set {W W':World}{o:Own}{v:Value}{bs:List Bool}{b:Nat}{cur:Array Value}{T:TypeId}{fr:Nat×Nat}(h:LawF W o v bs)(hx:W.heap[b]?=some (.cells cur T fr))(hT:T≠4)(hw:Wr (· = b) W W'):LawF W' o v bs:=by
 have g0:∀ k,v.ownBlock=some k->¬ k=b:=fun k hk e=>by
  obtain⟨_,_,c,h3⟩:=h.no k hk;rw[e,hx] at h3;injection h3 with h3
  injection h3 with _ h4
  exact hT h4
 exact⟨h.is.same fun k hk=>hw.keep k (h.no k hk).1 (g0 k hk),fun k hk=>by
  obtain⟨h1,h2,c,h3⟩:=h.no k hk;exact⟨Nat.lt_of_lt_of_le h1 hw.size,h2,c,(hw.keep k h1 (g0 k hk)).trans h3⟩⟩
theorem Zig {P:Program}{fn:Func}{p x y:Tmp}{ty:TypeId}(h:fn.results=#[.cell p ty,.tmp x,.tmp y])(tmps:Array Value)(w:World)(g:Nat)(t:TypeId)(cs:Array Value)(fr:Nat×Nat)(d:TypeDesc)
 (hp:tmps.getD p undef=.pointer (some ⟨g,0,none⟩)) (hg:w.heap[g]?=some (.cells cs t fr))
 (hu:P.underlying ty=some d) (hd:(match d with|.struct _|.array _ _=>true|_=>false)=true) (hi:(P.info? ty).map (·.size)=some cs.size) :
 (results fn tmps).run P w=.ok (.tuple #[.agg cs,tmps.getD x undef,tmps.getD y undef]) w:=by
 have g0:tmps[p]?.getD undef=.pointer (some ⟨g,0,none⟩):=by simpa using hp
 simp[results,h,g0,asAddr,run_loadVar_row w g t ty cs fr d hg hu hd hi]
section
variable {K:Law}{n room:Nat}{Od:List Nat->Prop}{w0 W:World}{mb:Nat}{fs hs:List (Int×BF)}{nx:Int}{Wt:List Ev->Int->Prop}{o:Own}{m:ManD}{V:Nat->BF}{vl vx:Value}
theorem Zwo (h:LawT K n Od room w0 mb fs nx Wt hs hs W o m V vl vx)(hsub:∀ p∈hs,p∈fs)(hn:n<=16)(hl:hs.length<=100)(kind p q v:Int)(a1 a2 a3:Value) :
 Calls prog 31 #[.agg #[.int .i64 (n:Nat),a1,a2,a3],vl,vx,.int .i64 kind,.int .i64 p,.int .i64 q,.int .i64 v] W fun x w'=>∃ a F r b G s v',x=.returned (.tuple #[.agg #[.int .i64 kind,r,s,.int .i64 v'],.int .i64 a,.int .i64 b])/\(v'=if v>=(n:Int) then -1 else v)/\(a,F)∈fs/\(b,G)∈fs/\LawF w' o r (tabB n F)/\LawF w' o s (tabB n G)/\Below W.heap.size W w':=by
 obtain⟨w1,g1⟩:∃ w,w=W.alloc (.cells #[.int .i64 (n:Nat),a1,a2,a3] 39):=⟨_,rfl⟩;obtain⟨w2,g6⟩:∃ w,w=w1.alloc (.cells #[.int .i64 0,.slice none 0 0,.slice none 0 0,.int .i64 0] 57):=⟨_,rfl⟩;have gb:Below W.heap.size W w1:=by rw[g1];exact Zad _ _
 have ga:Below w1.heap.size w1 w2:=by rw[g6];exact Zad _ _
 have hb:=gb.trans (ga.mono gb.size);have g8:w1.heap.size=W.heap.size+1:=by rw[g1];simp
 have c0:w2.cell? ⟨W.heap.size,0,none⟩=some (.int .i64 (n:Nat)):=by
  rw[ga.cell (p:=⟨W.heap.size,0,none⟩) (by rw[g8];simp),g1,cell_of_row _ _ 0 _ _ _ (heap_alloc_new W _)];rfl
 have hx:w2.heap[W.heap.size+1]?=some (.cells #[.int .i64 0,.slice none 0 0,.slice none 0 0,.int .i64 0] 57 (0,0)):=by
  rw[g6,<- g8];exact heap_alloc_new _ _
 have gf:Hid (_=w2):=Hd g6.symm;rw[g1] at gf;have HO:=Hd (Zqu (h.below hb) hsub hn hl p);have HL:=Hd (h.below hb);have HB:=Hd hb;have HX:=Hd hx;have gj:=Hd hsub;clear h g1 g6 hb gb ga g8 hx hsub
 go_enter func31,ntmps31
 go_upto_region 1 with fail;rw[gf.out];go_wp2_with fail;refine HO.out.mono ?_;rintro x w3 ⟨a,F,r,rfl,hF,hr,g7⟩;obtain⟨ta,tc,et,-⟩:=hr.tab;subst et;have HA:=Hd (show (a,F)∈two++[]++fs\/(a,F)∈fs from .inr hF);have HR:=Hd hr;have g3:=Hd g7;have gg:=Hd (Zqu (HL.out.below g7) gj.out hn hl q);have d0:=(g7.cell (p:=⟨W.heap.size,0,none⟩) (Zaa c0)).trans c0;have gh:=Hd hF;clear hr g7 HO c0 HA hF;go_wp2_with fail;refine gg.out.mono ?_;rintro x w4 ⟨b,G,s,rfl,hG,hs',g2⟩;obtain⟨ua,uc,eu,-⟩:=hs'.tab;subst eu;have g5:w4.heap[W.heap.size+1]?=some (.cells #[.int .i64 0,.slice none 0 0,.slice none 0 0,.int .i64 0] 57 (0,0)):=(g2.block _ (by have:=g3.out.size;have:=(Array.getElem?_eq_some_iff.1 HX.out).1;omega)).trans ((g3.out.block _ (Array.getElem?_eq_some_iff.1 HX.out).1).trans HX.out);have e0:=(g2.cell (p:=⟨W.heap.size,0,none⟩) (Zaa d0)).trans d0;obtain⟨x0,x1,x2,x3,xf⟩:=cells4 g5;have gc:=Hd g5;have gi:W.heap.size+1<w4.heap.size:=(Array.getElem?_eq_some_iff.1 g5).1;have gd:Hid (∀ w5,Wr (· = W.heap.size+1) w4 w5->Below W.heap.size w4 w5->(b,G)∈fs/\LawF w5 o (.slice ta (2^n) tc) (tabB n F)/\LawF w5 o (.slice ua (2^n) uc) (tabB n G)/\Below W.heap.size W w5):=Hd fun w5 hw gl=>by
  have gk:Below W.heap.size W w4:=HB.out.trans ((g3.out.trans (g2.mono g3.out.size)).mono HB.out.size);have ge:∀ {v:Value} {bs:List Bool},LawF w4 o v bs->LawF w5 o v bs:=fun hf=>hf.set gc.out (by decide) hw
  exact⟨hG,ge (HR.out.chg (Zb3 g2 o)),ge hs',gk.trans gl⟩
 clear hG hs' g2 g5 gg d0 HR HB g3 HX HL gi
 by_cases hv:v>=(n:Int)
 .
  go_wp2_with fail;obtain⟨w5,g0⟩:∃ w,w=(((w4.setCell ⟨W.heap.size+1,0,none⟩ (.int .i64 kind)).setCell ⟨W.heap.size+1,1,none⟩ (.slice ta (2^n) tc)).setCell ⟨W.heap.size+1,2,none⟩ (.slice ua (2^n) uc)).setCell ⟨W.heap.size+1,3,none⟩ (.int .i64 (-1)):=⟨_,rfl⟩;have g9:w5.heap[W.heap.size+1]?=some (.cells #[.int .i64 kind,.slice ta (2^n) tc,.slice ua (2^n) uc,.int .i64 (-1)] 57 (0,0)):=by
   rw[g0];exact Zae (Zae (Zae (Zae gc.out _) _) _) _
  have g4:=gd.out w5 (by
   rw[g0];exact((((Wr.refl (· = W.heap.size+1) w4).setCell (p:=⟨W.heap.size+1,0,none⟩) (.inl rfl) _).setCell (p:=⟨W.heap.size+1,1,none⟩) (.inl rfl) _).setCell (p:=⟨W.heap.size+1,2,none⟩) (.inl rfl) _).setCell (p:=⟨W.heap.size+1,3,none⟩) (.inl rfl) _) (by
   rw[g0];exact((((Below.refl _ _).setCell (by dsimp only;omega) _).setCell (by dsimp only;omega) _).setCell (by dsimp only;omega) _).setCell (by dsimp only;omega) _)
  rw[<- g0];refine bodyPost_ret (Zig rfl _ _ _ _ _ _ _ rfl g9 underlying57 rfl (by kernel_rfl)) rfl ?_;exact⟨a,F,_,b,G,_,-1,rfl,by first|rfl|exact(if_pos hv).symm,gh.out,g4⟩
 .
  go_wp2_with fail;obtain⟨w5,g0⟩:∃ w,w=(((w4.setCell ⟨W.heap.size+1,0,none⟩ (.int .i64 kind)).setCell ⟨W.heap.size+1,1,none⟩ (.slice ta (2^n) tc)).setCell ⟨W.heap.size+1,2,none⟩ (.slice ua (2^n) uc)).setCell ⟨W.heap.size+1,3,none⟩ (.int .i64 v):=⟨_,rfl⟩;have g9:w5.heap[W.heap.size+1]?=some (.cells #[.int .i64 kind,.slice ta (2^n) tc,.slice ua (2^n) uc,.int .i64 v] 57 (0,0)):=by
   rw[g0];exact Zae (Zae (Zae (Zae gc.out _) _) _) _
  have g4:=gd.out w5 (by
   rw[g0];exact((((Wr.refl (· = W.heap.size+1) w4).setCell (p:=⟨W.heap.size+1,0,none⟩) (.inl rfl) _).setCell (p:=⟨W.heap.size+1,1,none⟩) (.inl rfl) _).setCell (p:=⟨W.heap.size+1,2,none⟩) (.inl rfl) _).setCell (p:=⟨W.heap.size+1,3,none⟩) (.inl rfl) _) (by
   rw[g0];exact((((Below.refl _ _).setCell (by dsimp only;omega) _).setCell (by dsimp only;omega) _).setCell (by dsimp only;omega) _).setCell (by dsimp only;omega) _)
  rw[<- g0];refine bodyPost_ret (Zig rfl _ _ _ _ _ _ _ rfl g9 underlying57 rfl (by kernel_rfl)) rfl ?_;exact⟨a,F,_,b,G,_,v,rfl,by first|rfl|exact(if_neg (by omega)).symm,gh.out,g4⟩
end
open Go.RowKit
section
variable {K:Law}{n room:Nat}{w0 wb W:World}{mb:Nat}{fs:List (Int×BF)}{nx:Int}{o0:Own}{ws0:List Ev}{C:Nat->Prop}{B:World->Own->Prop}
theorem Zx0 (hB:Zdf B)(h:FxS K n room w0 mb ws0 C o0 wb B fs nx W)(kind v kf kg:Int)(r s:Value) :
 Calls prog 34 #[.pointer (some ⟨mb,0,none⟩),.agg #[.int .i64 kind,r,s,.int .i64 v],.int .i64 kf,.int .i64 kg] W fun x w'=>∃ bm bs bf bg,x=.returned (.func (.func 92) #[] #[.pointer (some ⟨bm,0,none⟩),.pointer (some ⟨bs,0,none⟩),.pointer (some ⟨bf,0,none⟩),.pointer (some ⟨bg,0,none⟩)]) /\
  (bm<w'.heap.size/\bs<w'.heap.size/\bf<w'.heap.size/\bg<w'.heap.size)/\FxS K n room w0 mb ws0 C o0 wb (fun W o=>B W o/\NxB bm bs bf bg mb kind v kf kg W o) fs nx w':=by
 have g6:∀ (fn:Fn) (first cap:Array Value) (w:World),(Instr.makeFunc fn first cap).run prog w=.ok (.func fn first cap) w:=fun _ _ _ _=>rfl
 obtain⟨t,ht⟩:∃ t,t=W.heap.size:=⟨_,rfl⟩;obtain⟨w1,g3⟩:∃ w,w=W.alloc (.cells #[.pointer (some ⟨mb,0,none⟩)] 41):=⟨_,rfl⟩;obtain⟨w2,g2⟩:∃ w,w=w1.alloc (.cells #[.int .i64 kind,r,s,.int .i64 v] 57):=⟨_,rfl⟩;obtain⟨w3,g1⟩:∃ w,w=w2.alloc (.cells #[.int .i64 kf] 3):=⟨_,rfl⟩;obtain⟨w4,g0⟩:∃ w,w=w3.alloc (.cells #[.int .i64 kg] 3):=⟨_,rfl⟩;have z1:w1.heap.size=t+1:=by rw[g3,ht];simp
 have z2:w2.heap.size=t+2:=by rw[g2];simp[z1]
 have z3:w3.heap.size=t+3:=by rw[g1];simp[z2]
 have z4:w4.heap.size=t+4:=by rw[g0];simp[z3]
 have b1:Below t W w1:=by rw[g3,ht];exact Zad _ _
 have b2:Below (t+1) w1 w2:=by rw[g2,<- z1];exact Zad _ _
 have b3:Below (t+2) w2 w3:=by rw[g1,<- z2];exact Zad _ _
 have b4:Below (t+3) w3 w4:=by rw[g0,<- z3];exact Zad _ _
 have hb:Below t W w4:=b1.trans ((b2.mono (by omega)).trans ((b3.mono (by omega)).trans (b4.mono (by omega))));have x1:w4.heap[t]?=some (.cells #[.pointer (some ⟨mb,0,none⟩)] 41 (0,0)):=by rw[b4.block _ (by omega),b3.block _ (by omega),b2.block _ (by omega),g3,ht];exact heap_alloc_new _ _
 have x2:w4.heap[t+1]?=some (.cells #[.int .i64 kind,r,s,.int .i64 v] 57 (0,0)):=by rw[b4.block _ (by omega),b3.block _ (by omega),g2,<- z1];exact heap_alloc_new _ _
 have x3:w4.heap[t+1+1]?=some (.cells #[.int .i64 kf] 3 (0,0)):=by rw[b4.block _ (by omega),g1,<- z2];exact heap_alloc_new _ _
 have x4:w4.heap[t+1+1+1]?=some (.cells #[.int .i64 kg] 3 (0,0)):=by rw[g0,show t+1+1+1=t+3 from rfl,<- z3];exact heap_alloc_new _ _
 have HS:Hid (FxS K n room w0 mb ws0 C o0 wb (fun W o=>B W o/\NxB t (t+1) (t+1+1) (t+1+1+1) mb kind v kf kg W o) fs nx w4):=Hd (by
  obtain⟨o,m,V,h1,h2,h3,h4⟩:=h;have g4:Below W.heap.size W w4:=ht ▸ hb;have hc:=ChgX.of_below g4 o NoB;refine⟨o,m,V,h1.trans hc NoB.sub,h2,h3.below g4,hB _ _ _ _ h4 hc,⟨?_,h3.lt.none (by omega)⟩,⟨?_,h3.lt.none (by omega)⟩,⟨?_,h3.lt.none (by omega)⟩,⟨?_,h3.lt.none (by omega)⟩,⟨?_,h3.lt.none (by omega)⟩⟩
  . rw[cell_of_row _ _ 0 _ _ _ x1];rfl
  . rw[cell_of_row _ _ 0 _ _ _ x2];rfl
  . rw[cell_of_row _ _ 3 _ _ _ x2];rfl
  . rw[cell_of_row _ _ 0 _ _ _ x3];rfl
  . rw[cell_of_row _ _ 0 _ _ _ x4];rfl)
 have HZ:Hid (t<w4.heap.size/\t+1<w4.heap.size/\t+1+1<w4.heap.size/\t+1+1+1<w4.heap.size):=Hd (by omega);have g5:Hid (_=w4):=Hd g0.symm;rw[g1,g2,g3] at g5;have HT:=Hd ht;clear h g3 g2 g1 g0 b1 b2 b3 b4 x1 x2 x3 x4 z1 z2 z3 z4 hb ht
 go_enter func34,ntmps34
 go_upto_region 1 with fail;rw[<- HT.out,g5.out];go_wp2_with fail;go_ret;exact⟨t,t+1,t+1+1,t+1+1+1,rfl,HZ.out,HS.out⟩
end
open Go.RowKit
theorem Zmw (args:Array Value)(w:World):(callFunc 82 args).run prog w=.ok (.enter 82 args) w:=enters_of func82 (by kernel_rfl) rfl args w
def upF (F:BF):BF:=Zcf F (fun _=>true) (varF 0)
theorem up1:upF (fun _=>false)=varF 0:=rfl
theorem up2:upF (varF 0)=varF 0:=by
 funext ρ
 show iteB (ρ 0) true (ρ 0)=ρ 0
 cases ρ 0<;>rfl
theorem Yb8:varF 0≠fun _=>false:=fun e=>by have:=congrFun e (fun _=>true);cases this
theorem Zzo:EndF upF (fun _=>false) 1:=by
 refine⟨fun i hi=>?_,?_⟩
 .
  obtain rfl:i=0:=by omega
  show upF (fun _=>false)≠fun _=>false
  rw[up1];exact Yb8
 .
  show upF (upF fun _=>false)=upF fun _=>false
  rw[up1,up2]
theorem Ybe:allF upF (fun _=>false) 1=varF 0:=by
 funext ρ
 show iteB false true (iteB (upF (fun _=>false) ρ) (!false) false)=varF 0 ρ
 rw[up1];cases varF 0 ρ<;>rfl
theorem Zr8:Zj7 upF (fun _=>false) 1:=by
 refine⟨fun i hi=>?_,?_⟩
 .
  obtain rfl:i=0:=by omega
  intro e;have:=congrFun e (fun _=>true);cases this
 .
  show Zoj (upF (allF upF (fun _=>false) 1)) (allF upF (fun _=>false) 1)=fun _=>false
  rw[Ybe,up2];funext ρ
  show iteB (varF 0 ρ) (!varF 0 ρ) false=false
  cases varF 0 ρ<;>rfl
theorem Ybd {F:BF}(h:DepF 1 F):DepF 1 (upF F):=Zdq h (Zcm 1 true) fun ρ ρ' hr=>hr 0 (by omega)
def UpB (bm ba mb:Nat):World->Own->Prop:=fun W o=>BoxA bm 0 (.pointer (some ⟨mb,0,none⟩)) W o/\BoxA ba 0 (.int .i64 2) W o
theorem UpB.keepB {bm ba mb:Nat}:Zdf (UpB bm ba mb):=BoxA.keep.and BoxA.keep
theorem up_f {K:Law}(hK:Zbh K){n room L:Nat}{w0:World}{mb bm ba:Nat}{ws0:List Ev}{C:Nat->Prop}(hr:(L+1)*2^n<=room) :
 FunC K n room w0 mb ws0 L C (fun _=>UpB bm ba mb) [(2,varF 0)] 82 #[.pointer (some ⟨bm,0,none⟩),.pointer (some ⟨ba,0,none⟩)] upF (fun _=>0) 1:=by
 refine⟨Zmw,fun _=>UpB.keepB,by omega,fun j _ o0 wb W fs nx h F g1 hb g2 hk hn hl=>?_⟩;have g3:=Hd (g1.ite hK UpB.keepB (k1:=h) (k2:=1) (k3:=2) (F1:=F) (F2:=fun _=>true) (F3:=varF 0) hk hb.one (g2 _ (by simp)) (by omega) (Nat.le_trans (Nat.mul_le_mul_right _ (by omega)) hr));obtain⟨_,_,_,_,_,_,⟨c1,_⟩,⟨c2,_⟩⟩:=g1;obtain⟨PP,g0⟩:∃ PP:Ending->World->Prop,PP=fun e w'=>∃ p nx',e=.returned (.tuple #[.int .i64 p,.int .i64 0])/\nx<=nx'/\nx'<=nx+1 /\
  ((0:Int)=0->FxS K n room w0 mb ws0 C o0 wb (UpB bm ba mb) (fs++[(p,upF F)]) nx' w')/\((0:Int)≠0->FxS K n room w0 mb ws0 C o0 wb (UpB bm ba mb) fs nx' w'):=⟨_,rfl⟩
 have g4:=Hd g0
 show Calls _ _ _ _ _
 rw[<- g0];clear g0 hb g2 hk hn hl hr hK
 show Calls _ _ #[_,_,_] _ _
 go_enter func82,ntmps82
 go_wp2_with fail;refine g3.out.mono ?_;rintro x w1 ⟨rfl,h1⟩;have HF:Hid (PP (.returned (.tuple #[.int .i64 nx,.int .i64 0])) w1):=Hd (by rw[g4.out];exact⟨nx,nx+1,rfl,by omega,by omega,fun _=>h1,fun e=>(e rfl).elim⟩);clear h1 g3 c1 c2;go_wp2_with fail;exact HF.out
abbrev S45 (K:Law)(w:World)(mb:Nat)(B:World->Own->Prop)(fs:List (Int×BF))(nx:Int)(W:World):Prop:=FxS K 1 200 w mb [] NoB (fun _=>none) w B fs nx W
theorem Zkm {K:Law}(hK:Zbh K)(w:World):Calls prog 30 #[] w fun x w'=>x=.returned (.bool true)/\Below w.heap.size w w':=by
 have gr:∀ (fn:Fn) (first cap:Array Value) (w:World),(Instr.makeFunc fn first cap).run prog w=.ok (.func fn first cap) w:=fun _ _ _ _=>rfl
 have ga:=Hd (Zrr (K:=K) 1 200 w (by omega) (by omega) (by omega));have HK:=Hd hK;have gf:Hid (∀ {B:World->Own->Prop} {mb:Nat},Zdf B->∀ W,S45 K w mb B two 2 W->Calls prog 81 #[.pointer (some ⟨mb,0,none⟩),.int .i64 0] W fun x w'=>x=.returned (.tuple #[.int .i64 2,.int .i64 0])/\S45 K w mb B (two++[(2,varF 0)]) 3 w'):=Hd fun hB W g=>g.new hB fun o m V hw hs=>(Yb7 hK hs hw (by omega) (by decide) (v:=0) (by omega)).mono fun x w' ⟨q1,o',m',V',q2,q3,q4⟩=>⟨q1,o',m',V',q2,q3,q4⟩
 clear hK
 go_enter func30,ntmps30
 go_wp2_with fail;refine ga.out.mono ?_;rintro x w1 ⟨mb,rfl,o,m,V,g3,gb,_,gm⟩;have h1:S45 K w mb (fun _ _=>True) two 2 w1:=⟨o,m,V,g3.chg,by rw[gb];exact List.suffix_refl _,g3,trivial⟩;have h2:=Zjo (fun _ _ _ _ _ _=>trivial) h1 (vs:=#[.pointer (some ⟨mb,0,none⟩)]) (t:=41) (k:=0) (v:=.pointer (some ⟨mb,0,none⟩)) rfl;obtain⟨w2,g2⟩:∃ w2,w2=w1.alloc (.cells #[.pointer (some ⟨mb,0,none⟩)] 41):=⟨_,rfl⟩;have go:Hid (_=w2):=Hd g2.symm;rw[<- g2] at h2;have g8:S45 K w mb (BoxA w1.heap.size 0 (.pointer (some ⟨mb,0,none⟩))) two 2 w2:=h2.withB fun o m V _ hh=>hh.2
 have c1:w2.cell? ⟨w1.heap.size,0,none⟩=some (.pointer (some ⟨mb,0,none⟩)):=by obtain⟨_,_,_,_,_,_,hb⟩:=g8;exact hb.1
 have HV:=Hd (gf.out BoxA.keep w2 g8);clear h1 h2 g8 g3 gb gm g2 ga gf;go_upto_region 2 with fail;rw[go.out];go_wp2_with fail;refine HV.out.mono ?_;rintro x w3 ⟨rfl,h3⟩;have h4:=Zjo BoxA.keep h3 (vs:=#[.int .i64 2]) (t:=3) (k:=0) (v:=.int .i64 2) rfl;obtain⟨w4,g1⟩:∃ w4,w4=w3.alloc (.cells #[.int .i64 2] 3):=⟨_,rfl⟩;have gn:Hid (_=w4):=Hd g1.symm;rw[<- g1] at h4;have g7:S45 K w mb (UpB w1.heap.size w3.heap.size mb) (two++[(2,varF 0)]) 3 w4:=h4;have g9:FunC K 1 200 w mb [] 60 NoB (fun _=>UpB w1.heap.size w3.heap.size mb) [(2,varF 0)] 82 #[.pointer (some ⟨w1.heap.size,0,none⟩),.pointer (some ⟨w3.heap.size,0,none⟩)] upF (fun _=>0) 1:=up_f HK.out (by decide);have gi:=Hd (Zo8 HK.out g9 0 (by omega) g7 (Zr7.app _) (by simp) (by omega) (by simp[two]));have gj:Hid (∀ {fs nx W},S45 K w mb (UpB w1.heap.size w3.heap.size mb) fs nx W->W.cell? ⟨w1.heap.size,0,none⟩=some (.pointer (some ⟨mb,0,none⟩))/\W.cell? ⟨w3.heap.size,0,none⟩=some (.int .i64 2)):=Hd fun⟨_,_,_,_,_,_,q1,q2⟩=>⟨q1.1,q2.1⟩
 obtain⟨a1,a2⟩:=gj.out g7;have HU:=Hd g9;clear h3 h4 g7 g1 HV g9 c1;go_upto_region 5 with fail;rw[gn.out];go_wp2_with fail;refine gi.out.mono ?_;rintro x w5 ⟨s,nx5,hs,gd,ge,g0⟩;obtain⟨p,rfl,h5⟩:∃ p,x=.returned (.tuple #[.int .i64 p,.int .i64 2,.int .i64 0])/\S45 K w mb (UpB w1.heap.size w3.heap.size mb) (two++[(2,varF 0)]++[(p,varF 0)]) nx5 w5:=by
  rcases g0 with ⟨p,k,rfl,rfl,he,_,h⟩|⟨k,rfl,_,gl,_⟩|⟨rfl,_,gk,_⟩
  . obtain rfl:=Zzo.uniq he;exact⟨p,rfl,h⟩
  . exact(gl rfl).elim
  . exact absurd (Zzo.not_on gk) (by omega)
 have gp:Hid (3<=nx5/\nx5<=10000):=Hd ⟨gd,by have:=ge;have:=hs;simp only[Int.mul_one] at *;omega⟩;clear a1 a2;obtain⟨a1,a2⟩:=gj.out h5;have gg:=Hd (FxS.sameB h5 (k:=p) (l:=2) (F:=varF 0) (G:=varF 0) (b:=true) (by simp) (by simp) (by simp));have hd:∀ i,DepF 1 (Zci upF (fun _=>false) i):=fun i=>(Zrv (fun F h=>Ybd h) (Zcm 1 false) i).2
 have g5:∀ j:Nat,LowB w5.heap.size (UpB w1.heap.size w3.heap.size mb):=fun _ W W' o hB hk _ =>
  ⟨⟨(World.cell?_of_block (w:=W) (hk _ (Zaa a1))).trans hB.1.1,hB.1.2⟩,⟨(World.cell?_of_block (w:=W) (hk _ (Zaa a2))).trans hB.2.1,hB.2.2⟩⟩
 have gh:=Hd (Zyc HK.out HU.out (fun k e=>e.elim) g5 0 (by omega) h5 ((Zr7.app _).app _) (by simp) (q:=0) (Q:=fun _=>false) (by simp[two]) hd (most:=9) (M:=9) (by decide) (by omega) (by have:=gp.out;omega) (by simp[two]) (by decide));clear h5 g0 gd ge hd g5 gi HU;go_wp2_with fail;refine gg.out.mono ?_;rintro x w' ⟨rfl,rfl⟩;go_wp2_with fail;refine gh.out.mono ?_;rintro x w6 ⟨k,s6,rs,nx6,vl,wh,rfl,_,_,_,g4,gc,h6⟩;obtain⟨rfl,rfl⟩:k=2/\wh=true:=by
  rcases gc with ⟨_,rfl,hr,_⟩|⟨rfl,i,rfl,_,hw⟩
  . exact absurd (Zr8.le hr) (by omega)
  . obtain rfl:=Zr8.uniq hw;exact⟨rfl,rfl⟩
 have g6:rs.length=2:=by have:=congrArg List.length g4;simpa using this
 obtain⟨al,cl,rfl⟩:∃ a c,vl=.slice a 2 c:=by
  obtain⟨_,_,_,_,_,_,_,hl⟩:=h6;obtain⟨a,c,e,_⟩:=hl.ints (by simp[g6]);exact⟨a,c,by rw[e];simp[g6]⟩
 have gq:Hid (Below w.heap.size w w6):=Hd (by
  obtain⟨_,_,_,_,_,h,_⟩:=h6;exact h.chg.below0)
 clear h6 g4 gc g6 gh gg a1 a2;go_wp2_with fail;go_ret;exact⟨rfl,gq.out⟩
open Go.RowKit
theorem Zwx {n:Nat}{v:Int}{F:BF}(hF:DepF n F):DepF n (Zcv v F):=fun ρ ρ' hr=>by
 unfold Zcv;split
 .
  refine hF _ _ fun u hu=>?_
  show sigF [v] u ρ=sigF [v] u ρ'
  unfold sigF;split
  .
   show (!ρ u) = !ρ' u
   rw[hr u hu]
  . exact hr u hu
 . exact hF ρ ρ' hr
theorem Zvy {n:Nat}{kind v:Int}{P Q F:BF}(hP:DepF n P)(hQ:DepF n Q)(hF:DepF n F):DepF n (Zeh kind v P Q F):=by
 have hT:DepF n (Zcv v F):=Zwx hF;unfold Zeh;split
 . exact Zdq hQ (Zcm n true) (Zdq hP hT (Zcm n false))
 .
  split
  . exact Zdq hP (Zdq hQ (Zcm n true) hT) (Zcm n false)
  . exact Zdq hT hQ hP
theorem Zr0 {n:Nat}(hn:n<=4):(60+4)*2^n+(2^n-1)*(2^n+1)<=Zce n:=by
 rcases(show n=0\/n=1\/n=2\/n=3\/n=4 by omega) with rfl|rfl|rfl|rfl|rfl<;>decide
section
variable {K:Law}{n room L:Nat}{w0 w wb W W':World}{mb:Nat}{fs:List (Int×BF)}{nx:Int}{o0:Own}{ws0:List Ev}{C:Nat->Prop}{B:World->Own->Prop}
theorem FxS.below0 (h:FxS K n room w0 mb ws0 C o0 wb B fs nx W):Below w0.heap.size w0 W:=by
 obtain⟨o,m,V,_,_,h3,_⟩:=h;exact h3.chg.below0
end
open Go.RowKit
theorem TabA.addr {n:Nat}{W:World}{v:Value}{F:BF}(h:TabA n W v F):∃ g c,v=.slice (some g) (2^n) c/\TabA n W v F:=by
 obtain⟨a,c,rfl,h1⟩:=id h;have hp:0<2^n:=Nat.pow_pos (by omega);obtain⟨b,off,rfl,_⟩:=h1.cells 0 (by rw[Za6];exact hp);exact⟨_,_,rfl,h⟩
theorem TabA.bools {n:Nat}{W:World}{v:Value}{F:BF}(h:TabA n W v F):Zbw W v (tabB n F):=by
 obtain⟨g,c,rfl,a,c',e,h1⟩:=h.addr;exact⟨some g,c,by rw[Za6],by injection e with e;rw[e];exact h1,fun e=>by cases e⟩
def RunV (n:Nat)(Ψ:BF->BF)(F:BF)(u:Value)(st:Int)(b:Bool)(W:World):Prop :=
 (∃ j:Nat,j<4096/\st=(j:Int)+1/\b=true/\EndF Ψ F j/\TabA n W u (Zcy Ψ F j))\/(u=.slice none 0 0/\st=0/\b=false/\OnF Ψ F 4096)
def GoV (Ψ:BF->BF)(F:BF)(h k e:Int)(r:List (Int×BF)):Prop :=
 (∃ j:Nat,j<4096/\k=(j:Int)+1/\e=0/\EndF Ψ F j/\r=[(h,Zcy Ψ F j)])\/(h=0/\k=0/\e=19/\OnF Ψ F 4096/\r=[])
structure RnI (n:Nat)(w1:World)(Ψ:BF->BF)(F:BF)(i:Nat)(x:Value)(W:World):Prop where
 tab:TabA n W x (Zcy Ψ F i)
 on:OnF Ψ F i
 bel:Below w1.heap.size w1 W
theorem Zmc {n:Nat}(hn:n<=4){kind v:Int}(hv:v<(n:Int)){vp vq x:Value}{P Q F:BF}{w:World}(hp:TabA n w vp P)(hq:TabA n w vq Q)(hx:TabA n w x F){Φ:BF->BF}(hΦ:Φ=Zeh kind v P Q)(hd:∀ i,DepF n (Zcy Φ F i)) :
 Calls prog 37 #[Zik kind vp vq v,x,.slice none 0 0] w fun e w'=>∃ u st b,e=.returned (.tuple #[u,.int .i64 st,.bool b])/\RunV n Φ F u st b w'/\Below w.heap.size w w':=by
 obtain⟨w1,g0⟩:∃ w1,w1=w.alloc (.cells #[.int .i64 kind,vp,vq,.int .i64 v] 57):=⟨_,rfl⟩;have HW1:Hid (_=w1):=Hd g0.symm;have g1:Below w.heap.size w w1:=by rw[g0];exact Zad _ _
 have g7:w1.heap[w.heap.size]?=some (.cells #[.int .i64 kind,vp,vq,.int .i64 v] 57 (0,0)):=by rw[g0];exact heap_alloc_new _ _
 have gf:w.heap.size<w1.heap.size:=by rw[g0];simp
 have HP:=Hd (show TabA n w1 vp P/\TabA n w1 vq Q from ⟨hp.below g1,hq.below g1⟩);obtain⟨Ψ,hΨ⟩:∃ Ψ:BF->BF,Ψ=Φ:=⟨_,rfl⟩;rw[<- hΨ] at hd ⊢;have HX:Hid (RnI n w1 Ψ F 0 x w1):=Hd ⟨hx.below g1,OnF.zero _ _,Below.refl _ _⟩;obtain⟨pa,pc,rfl,_⟩:=hp;obtain⟨qa,qc,rfl,_⟩:=hq;obtain⟨xa,xc,rfl,_⟩:=id hx;have g5:=Hd g1;have gp:=Hd g7;have go:=Hd hΦ;have gk:=Hd hΨ;have HD:=Hd hd;have gn:=Hd gf
 show Calls _ _ #[.agg #[_,_,_,_],_,_] _ _
 clear g0 hx g1 g7 hΦ hΨ hd gf
 go_enter func37,ntmps37
 go_upto_region 1 with fail;rw[HW1.out];go_wp2_with fail
 go_loopw [1,6,7,8,9,10] (fun sx _ _ _ sn _ wr=>∃ (i:Nat) (a:Option Addr) (c:Nat),i<=4096/\sx=.slice a (2^n) c/\sn=.int .i64 ((i:Nat)+1)/\Hid (RnI n w1 Ψ F i (.slice a (2^n) c) wr)) (fun _ _ _ _ sn _ _=>4097-(intOf sn).toNat)
 case atStart=>exact⟨0,xa,xc,by omega,rfl,rfl,HX⟩
 case round =>
  clear HX;obtain⟨i,a,c,hi,rfl,rfl,HI⟩:=hrel
  by_cases gm:i<4096
  .
   have gq:(i:Int)+1<=4096:=by omega
   obtain⟨x0,x1,x2,x3,xf⟩:=cells4 ((HI.out.bel.block _ gn.out).trans gp.out);have g3:=Hd (Zl4 (n:=n) (by omega) (kind:=kind) hv (HP.out.1.below HI.out.bel) (HP.out.2.below HI.out.bel) HI.out.tab);unfold Zik at g3;rw[<- go.out] at g3;clear xf;go_wp2_with fail;refine g3.out.mono ?_;rintro e w3 ⟨v3,rfl,g6,gh⟩;obtain⟨a3,c3,e3,_⟩:=id g6;subst e3;have gc:=Hd g6;have gl:=Hd gh;clear g6 gh g3 x0 x1 x2 x3;have gb:Hid (TabA n w3 (.slice a3 (2^n) c3) (Zcy Ψ F (i+1))):=Hd (by rw[gk.out];rw[gk.out] at gc;exact gc.out);obtain⟨a4,gi⟩:∃ a,a=a3:=⟨_,rfl⟩;obtain⟨c4,gg⟩:∃ a,a=c3:=⟨_,rfl⟩;rw[<- gi,<- gg] at gb ⊢;have ge:=gl;clear gc gl gi gg;obtain⟨bb,g8⟩:=Zmq (Zcy Ψ F i=Zcy Ψ F (i+1));have gj:=Hd (Zkt (n:=n) (b:=bb) (HI.out.tab.below ge.out) gb.out (HD.out i) (HD.out (i+1)) g8);have g4:=Hd g8;clear g8;go_wp2_with fail;refine gj.out.mono ?_;rintro e w7 ⟨rfl,g9⟩;have ga:=Hd (gb.out.below g9);have g2:=Hd (ge.out.trans (g9.mono ge.out.size));have gd:=Hd (HI.out.tab.below g2.out);clear g9 gj;cases bb with
   | true =>
     have HF:=Hd (show RunV n Ψ F (.slice a (2^n) c) ((i:Int)+1) true w7/\Below w.heap.size w w7 from
      ⟨.inl ⟨i,gm,rfl,rfl,⟨HI.out.on,(g4.out.1 rfl).symm⟩,gd.out⟩,g5.out.trans ((HI.out.bel.trans (g2.out.mono HI.out.bel.size)).mono g5.out.size)⟩)
     clear HI g2 g4 ga gd;go_wp2_with fail;refine bodyPost_ret (results_tmp3 rfl _ _ _) rfl ?_;exact⟨_,_,_,rfl,HF.out⟩
   | false =>
     have HN:Hid (RnI n w1 Ψ F (i+1) (.slice a4 (2^n) c4) w7):=Hd ⟨ga.out,HI.out.on.succ (fun e=>by have:=g4.out.2 e.symm;cases this),HI.out.bel.trans (g2.out.mono HI.out.bel.size)⟩;clear HI g2 g4 ga gd;go_wp2_with fail;go_roundw
     case rel=>exact⟨i+1,a4,c4,by omega,rfl,by go_num,HN⟩
     case measure=>simp[intOf];omega
  .
   obtain rfl:i=4096:=by omega
   have HF:=Hd (show RunV n Ψ F (.slice none 0 0) 0 false wr/\Below w.heap.size w wr from ⟨.inr ⟨rfl,rfl,rfl,HI.out.on⟩,g5.out.trans (HI.out.bel.mono g5.out.size)⟩);clear HI;go_wp2_with fail;refine bodyPost_ret (results_tmp3 rfl _ _ _) rfl ?_;exact⟨_,_,_,rfl,HF.out⟩
theorem Zwb {n:Nat}(hn:n<=4){kind v:Int}(hv:v<(n:Int)){vp vq x y:Value}{P Q F R:BF}{w:World}(hp:TabA n w vp P)(hq:TabA n w vq Q)(hx:TabA n w x F)(hy:TabA n w y R){Φ:BF->BF}(hΦ:Φ=Zeh kind v P Q)(hd:∀ i,DepF n (Zcy (fun X=>orF R (Φ X)) F i)) :
 Calls prog 37 #[Zik kind vp vq v,x,y] w fun e w'=>∃ u st b,e=.returned (.tuple #[u,.int .i64 st,.bool b])/\RunV n (fun X=>orF R (Φ X)) F u st b w'/\Below w.heap.size w w':=by
 obtain⟨w1,g1⟩:∃ w1,w1=w.alloc (.cells #[.int .i64 kind,vp,vq,.int .i64 v] 57):=⟨_,rfl⟩;have HW1:Hid (_=w1):=Hd g1.symm;have g0:Below w.heap.size w w1:=by rw[g1];exact Zad _ _
 have g9:w1.heap[w.heap.size]?=some (.cells #[.int .i64 kind,vp,vq,.int .i64 v] 57 (0,0)):=by rw[g1];exact heap_alloc_new _ _
 have gf:w.heap.size<w1.heap.size:=by rw[g1];simp
 have HP:=Hd (show TabA n w1 vp P/\TabA n w1 vq Q/\TabA n w1 y R from ⟨hp.below g0,hq.below g0,hy.below g0⟩);obtain⟨Ψ,hΨ⟩:∃ Ψ:BF->BF,Ψ=(fun X=>orF R (Φ X)):=⟨_,rfl⟩;rw[<- hΨ] at hd ⊢;have HX:Hid (RnI n w1 Ψ F 0 x w1):=Hd ⟨hx.below g0,OnF.zero _ _,Below.refl _ _⟩;obtain⟨pa,pc,rfl,_⟩:=hp;obtain⟨qa,qc,rfl,_⟩:=hq;obtain⟨xa,xc,rfl,_⟩:=id hx;obtain⟨ya,yc,rfl,_⟩:=hy.addr;have g7:=Hd g0;have gr:=Hd g9;have gq:=Hd hΦ;have gp:=Hd hΨ;have HD:=Hd hd;have go:=Hd gf
 show Calls _ _ #[.agg #[_,_,_,_],_,_] _ _
 clear g1 hx hy g0 g9 hΦ hΨ hd gf
 go_enter func37,ntmps37
 go_upto_region 1 with fail;rw[HW1.out];go_wp2_with fail
 go_loopw [1,6,7,8,9,10] (fun sx _ _ _ sn _ wr=>∃ (i:Nat) (a:Option Addr) (c:Nat),i<=4096/\sx=.slice a (2^n) c/\sn=.int .i64 ((i:Nat)+1)/\Hid (RnI n w1 Ψ F i (.slice a (2^n) c) wr)) (fun _ _ _ _ sn _ _=>4097-(intOf sn).toNat)
 case atStart=>exact⟨0,xa,xc,by omega,rfl,rfl,HX⟩
 case round =>
  clear HX;obtain⟨i,a,c,hi,rfl,rfl,HI⟩:=hrel
  by_cases gn:i<4096
  .
   have gs:(i:Int)+1<=4096:=by omega
   obtain⟨x0,x1,x2,x3,xf⟩:=cells4 ((HI.out.bel.block _ go.out).trans gr.out);have g4:=Hd (Zl4 (n:=n) (by omega) (kind:=kind) hv (HP.out.1.below HI.out.bel) (HP.out.2.1.below HI.out.bel) HI.out.tab);unfold Zik at g4;rw[<- gq.out] at g4;clear xf;go_wp2_with fail;refine g4.out.mono ?_;rintro e w3 ⟨v3,rfl,g8,gh⟩;obtain⟨a3,c3,e3,_⟩:=id g8;subst e3;have gj:=Hd g8;have g6:=Hd gh;clear g8 gh g4 x0 x1 x2 x3;have gl:=Hd (Zwe (n:=n) (by omega) (HP.out.2.2.below (HI.out.bel.trans (g6.out.mono HI.out.bel.size))) gj.out);go_wp2_with fail;refine gl.out.mono ?_;rintro e w4 ⟨v4,rfl,g3,gg⟩;obtain⟨a4,c4,e4,gm⟩:=TabA.is g3;subst e4;have gi:Hid (TabA n w4 (.slice a4 (2^n) c4) (Zcy Ψ F (i+1))):=Hd (by rw[gp.out] at g3 ⊢;exact TabA.is g3);have ge:=Hd (g6.out.trans (gg.mono g6.out.size));clear gj g6 g3 gm gg gl;obtain⟨bb,ga⟩:=Zmq (Zcy Ψ F i=Zcy Ψ F (i+1));have gk:=Hd (Zkt (n:=n) (b:=bb) (HI.out.tab.below ge.out) gi.out (HD.out i) (HD.out (i+1)) ga);have g5:=Hd ga;clear ga;go_wp2_with fail;refine gk.out.mono ?_;rintro e w7 ⟨rfl,gb⟩;have gc:=Hd (gi.out.below gb);have g2:=Hd (ge.out.trans (gb.mono ge.out.size));have gd:=Hd (HI.out.tab.below g2.out);clear gb gk;cases bb with
   | true =>
     have HF:=Hd (show RunV n Ψ F (.slice a (2^n) c) ((i:Int)+1) true w7/\Below w.heap.size w w7 from
      ⟨.inl ⟨i,gn,rfl,rfl,⟨HI.out.on,(g5.out.1 rfl).symm⟩,gd.out⟩,g7.out.trans ((HI.out.bel.trans (g2.out.mono HI.out.bel.size)).mono g7.out.size)⟩)
     clear HI g2 g5 gc gd;go_wp2_with fail;refine bodyPost_ret (results_tmp3 rfl _ _ _) rfl ?_;exact⟨_,_,_,rfl,HF.out⟩
   | false =>
     have HN:Hid (RnI n w1 Ψ F (i+1) (.slice a4 (2^n) c4) w7):=Hd ⟨gc.out,HI.out.on.succ (fun e=>by have:=g5.out.2 e.symm;cases this),HI.out.bel.trans (g2.out.mono HI.out.bel.size)⟩;clear HI g2 g5 gc gd;go_wp2_with fail;go_roundw
     case rel=>exact⟨i+1,a4,c4,by omega,rfl,by go_num,HN⟩
     case measure=>simp[intOf];omega
  .
   obtain rfl:i=4096:=by omega
   have HF:=Hd (show RunV n Ψ F (.slice none 0 0) 0 false wr/\Below w.heap.size w wr from ⟨.inr ⟨rfl,rfl,rfl,HI.out.on⟩,g7.out.trans (HI.out.bel.mono g7.out.size)⟩);clear HI;go_wp2_with fail;refine bodyPost_ret (results_tmp3 rfl _ _ _) rfl ?_;exact⟨_,_,_,rfl,HF.out⟩
section
variable {K:Law}{n room:Nat}{w0 wb W:World}{mb:Nat}{fs:List (Int×BF)}{nx:Int}{o0:Own}{ws0:List Ev}{C:Nat->Prop}{B:World->Own->Prop}
theorem GoV.run {Ψ:BF->BF}{F:BF}{h k e st:Int}{r:List (Int×BF)}{u:Value}{b:Bool}(hg:GoV Ψ F h k e r)(hr:RunV n Ψ F u st b W):(b=true/\e=0/\k=st/\∃ G,r=[(h,G)]/\TabA n W u G)\/(b=false/\e=19/\h=0/\k=0/\r=[]):=by
 rcases hg with ⟨j,h1,h2,h3,h4,h5⟩|⟨h1,h2,h3,h4,h5⟩
 .
  rcases hr with ⟨j',q1,q2,q3,q4,q5⟩|⟨q1,q2,q3,q4⟩
  . obtain rfl:=h4.uniq q4;exact .inl ⟨q3,h3,by omega,_,h5,q5⟩
  . have:=h4.not_on q4;omega
 .
  rcases hr with ⟨j',q1,q2,q3,q4,q5⟩|⟨q1,q2,q3,q4⟩
  . have:=q4.not_on h4;omega
  . exact .inr ⟨q3,h3,h1,h2,h5⟩
theorem Zny (hn:n<=16)(hs:FxS K n room w0 mb ws0 C o0 wb B fs nx W){Ψ:BF->BF}{F:BF}{h k e st:Int}{r:List (Int×BF)}{u:Value}{b:Bool}(hsub:∀ p∈r,p∈fs)(hg:GoV Ψ F h k e r)(hr:RunV n Ψ F u st b W) :
 Calls prog 39 #[.pointer (some ⟨mb,0,none⟩),.int .i64 h,.int .i64 k,.int .i64 e,u,.int .i64 st,.bool b] W fun x w'=>x=.returned (.bool true)/\Below W.heap.size W w':=by
 rcases hg.run hr with ⟨rfl,rfl,rfl,G,rfl,hu⟩|⟨rfl,rfl,rfl,rfl,rfl⟩
 .
  obtain⟨o,m,V,_,_,h3,_⟩:=hs;have g1:=Hd (Zzh h3 hn (hsub _ (List.mem_singleton.2 rfl)) hu.bools);clear h3 hsub hg hr hu
  go_enter func39,ntmps39
  go_wp2_with fail;refine g1.out.mono ?_;rintro x w' ⟨b,rfl,hb,g0⟩;obtain rfl:b=true:=hb.2 (by first|rfl|trivial);have HF:=Hd g0;clear hb g0 g1;go_wp2_with fail;go_ret;exact⟨rfl,HF.out⟩
 .
  clear hs hsub hg hr
  go_enter func39,ntmps39
  go_wp2_with fail;go_ret;exact⟨rfl,Below.refl _ _⟩
theorem Zm3 {Bj:Nat->World->Own->Prop}{Φ:BF->BF}{c:Int}{j0:Nat}{F0:BF}{x:Ending}{w':World}(h:Zhh K n room w0 mb ws0 C o0 wb Bj Φ (fun _=>0) c j0 F0 fs nx x w')(h0:0<=c)(hc:c<=100) :
 ∃ p k e r nx' s,x=.returned (.tuple #[.int .i64 p,.int .i64 k,.int .i64 e])/\nx<=nx'/\nx'<=nx+500000/\GoV Φ F0 p k e r/\FxS K n room w0 mb ws0 C o0 wb (Bj s) (fs++r) nx' w':=by
 obtain⟨s,nx',hs,h1,h2,g1⟩:=h;have h3:(s:Int)*c<=4096*100:=Int.mul_le_mul (by omega) hc h0 (by omega);rcases g1 with ⟨p,k,rfl,rfl,he,_,g0⟩|⟨k,_,_,g2,_⟩|⟨rfl,rfl,hO,_,g0⟩
 . exact⟨p,_,_,_,nx',_,rfl,h1,by omega,.inl ⟨k,by omega,rfl,rfl,he,rfl⟩,g0⟩
 . exact(g2 rfl).elim
 . exact⟨_,_,_,[],nx',_,rfl,h1,by omega,.inr ⟨rfl,rfl,rfl,hO,rfl⟩,by rw[List.append_nil];exact g0⟩
theorem GoV.len {Ψ:BF->BF}{F:BF}{h k e st:Int}{r:List (Int×BF)}{u:Value}{b:Bool}(hg:GoV Ψ F h k e r)(hr:RunV n Ψ F u st b W):r.length=if b then 1 else 0:=by
 rcases hg.run hr with ⟨rfl,_,_,G,rfl,_⟩|⟨rfl,_,_,_,rfl⟩<;>rfl
end
end Go.Proofs.YtkbegdkpboklpaaGreat

namespace Go.Proofs.YtkbegdkpboklpaaGreat
open Go.Proofs.Tryz
open Go.RowKit Go.Deep Go.ChangeShapes Go.WideShapes
theorem wfI {x:Int}(h:(Lit.int .i64 x).wf=true):okI x:=by
 unfold okI;simp only[Lit.wf,IntKind.min,IntKind.max,IntKind.signed,IntKind.bits,Bool.and_eq_true,decide_eq_true_eq,if_true] at h;omega
theorem Zmp {b off:Nat}(k:Nat):(⟨b,off,none⟩:Addr).add k=⟨b,off+k,none⟩:=by unfold Addr.add;split<;>simp_all
theorem add0 (a:Addr):a.add 0=a:=by simp[Addr.add]
theorem Zgg {w:World}{a:Addr}{v:Value}(h:w.cell? a=some v):a.spot=none:=by
 obtain⟨b,off,spot⟩:=a;cases spot with
 | none=>rfl
 | some s=>simp[World.cell?] at h;split at h<;>simp at h
theorem Zul {n:Nat}{p:Nat->Ev->Prop}(h:∀ i,i<n->∃ x,p i x):∃ f:Nat->Ev,∀ i,i<n->p i (f i):=by
 classical
 refine⟨fun i=>if hi:i<n then Classical.choose (h i hi) else ⟨0,0,0⟩,fun i hi=>?_⟩;simp only[dif_pos hi];exact Classical.choose_spec (h i hi)
theorem Znd {H:Type}{enc:TypeId×Value->H}{P:Program}{w:World}{base:Nat}{spare:Nat->Bool}{held:Bool}{t e:TypeId}{fuel:Nat}{cs:List Value}{x:DataW H×List MemPlace}(ht:P.underlying t=some (.slice e))(h:DataW.trod enc P w base spare held fuel t cs=some x) :
 cs=[.slice none 0 0]\/∃ (a:Addr) (len cap n:Nat),cs=[.slice (some a) len cap]/\len<=cap/\cap<=maxLen/\fuel=n+1/\∀ i,i<len->∃ cs' y,w.cells? base (a.add (i*P.cellsOf e)) (P.cellsOf e)=some cs'/\DataW.trod enc P w base spare held n e cs'=some y:=by
 rcases DataW.trod_slice ht h with ⟨h0,_⟩|⟨a,len,cap,elems,rest,n,hn,e1,_,_,hl,hm,hlen,g0,_⟩
 . exact .inl h0
 . refine .inr ⟨a,len,cap,n,e1,hl,hm,hn,fun i hi=>?_⟩;have:=g0 i hi;rw[List.getElem?_eq_getElem (by omega)] at this;obtain⟨cs',h1,h2⟩:=Option.bind_eq_some_iff.1 this;exact⟨cs',_,h1,h2⟩
theorem open_expr {H:Type}{enc:TypeId×Value->H}{w:World}{base:Nat}{spare:Nat->Bool}{held:Bool}:∀ (fuel:Nat) {cs:List Value} {x:DataW H×List MemPlace},
 DataW.trod enc prog w base spare held fuel 81 cs=some x->∃ e x0 x1 x2,cs=[x0,x1,x2]/\Zbe w e (.agg #[x0,x1,x2]):=by
 intro fuel
 induction fuel using Nat.strongRecOn with
 | _ fuel IH =>
   intro cs x h;obtain⟨xs,k,hk,g7,g5,g6,hf⟩:=DataW.trod_struct underlying81 h;have c1:prog.cellsOf 3=1:=by kernel_rfl
   have c2:prog.cellsOf 36=1:=by kernel_rfl
   have c3:prog.cellsOf 81=3:=by kernel_rfl
   rw[c3] at g5
   match xs,g6,cs,g5 with
   | [y0,y1,y2],_,[v0,v1,v2],_ =>
     have g0:=hf 0 _ rfl;have g1:=hf 1 _ rfl;have g2:=hf 2 _ rfl;simp[c1,c2] at g0 g1 g2;obtain⟨n0,e0,_,w0⟩:=DataW.trod_int underlying3 g0;obtain⟨n1,e1,_,w1⟩:=DataW.trod_int underlying3 g1;simp only[List.cons.injEq,and_true] at e0 e1;subst e0 e1;rcases Znd underlying36 g2 with e2|⟨a,len,cap,n,e2,hl,hm,g8,hx⟩
     . simp only[List.cons.injEq,and_true] at e2;subst e2;exact⟨.mk n0 n1 0 (fun _=>.nil),_,_,_,rfl,by unfold Zbe;exact⟨none,0,rfl,wfI w0,wfI w1,by omega,fun k hk=>by omega⟩⟩
     .
      simp only[List.cons.injEq,and_true] at e2;subst e2;have each:∀ i,i<len->∃ q:ExT,∃ x0 x1 x2,w.cell? (a.add (i*3))=some x0/\w.cell? ((a.add (i*3)).add 1)=some x1/\w.cell? ((a.add (i*3)).add 2)=some x2/\Zbe w q (.agg #[x0,x1,x2]):=by
       intro i hi;obtain⟨cs',y,h1,h2⟩:=hx i hi;rw[c3] at h1;obtain⟨_,hlen,g3⟩:=World.cells?_some h1;obtain⟨e,x0,x1,x2,rfl,he⟩:=IH n (by omega) h2;have f0:=g3 0 (by omega);have f1:=g3 1 (by omega);have f2:=g3 2 (by omega);rw[add0] at f0;exact⟨e,x0,x1,x2,by simpa using f0,by simpa using f1,by simpa using f2,he⟩
      obtain⟨q,hq⟩:=choose_lt each;refine⟨.mk n0 n1 len q,_,_,_,rfl,?_⟩;unfold Zbe;refine⟨some a,cap,rfl,wfI w0,wfI w1,by unfold maxLen at hm;omega,fun i hi=>?_⟩;obtain⟨x0,x1,x2,f0,f1,f2,he⟩:=hq i hi;have g4:a.spot=none:=by
       obtain⟨_,_,_,q0,_⟩:=hq 0 (by omega);have:=Zgg q0;simpa [Addr.add] using this
      obtain⟨b,off,spot⟩:=a;dsimp only at g4;subst g4;simp only[Zmp] at f0 f1 f2;exact⟨b,off,x0,x1,x2,rfl,f0,f1,f2,he⟩
theorem Zta {H:Type}{enc:TypeId×Value->H}{w:World}{base:Nat}{spare:Nat->Bool}{held:Bool}{fuel:Nat}{cs:List Value}{x:DataW H×List MemPlace}
 (h:DataW.trod enc prog w base spare held fuel 36 cs=some x):∃ a l cap,cs=[.slice a l.length cap]/\Zj1 w a l:=by
 have c3:prog.cellsOf 81=3:=by kernel_rfl
 rcases Znd underlying36 h with e2|⟨a,len,cap,n,e2,hl,hm,g3,hx⟩
 . exact⟨none,[],0,e2,⟨by simp,fun k hk=>by simp at hk⟩⟩
 .
  subst e2;have each:∀ i,i<len->∃ q:ExT,∃ x0 x1 x2,w.cell? (a.add (i*3))=some x0/\w.cell? ((a.add (i*3)).add 1)=some x1/\w.cell? ((a.add (i*3)).add 2)=some x2/\Zbe w q (.agg #[x0,x1,x2]):=by
   intro i hi;obtain⟨cs',y,h1,h2⟩:=hx i hi;rw[c3] at h1;obtain⟨_,hlen,g0⟩:=World.cells?_some h1;obtain⟨e,x0,x1,x2,rfl,he⟩:=open_expr n h2;have f0:=g0 0 (by omega);have f1:=g0 1 (by omega);have f2:=g0 2 (by omega);rw[add0] at f0;exact⟨e,x0,x1,x2,by simpa using f0,by simpa using f1,by simpa using f2,he⟩
  obtain⟨q,hq⟩:=choose_lt each;refine⟨some a,(List.range len).map q,cap,by simp,⟨by unfold maxLen at hm;simp;omega,fun i hi=>?_⟩⟩;have g2:i<len:=by simpa using hi
  obtain⟨x0,x1,x2,f0,f1,f2,he⟩:=hq i g2;have g1:a.spot=none:=by
   obtain⟨_,_,_,q0,_⟩:=hq 0 (by omega);have:=Zgg q0;simpa [Addr.add] using this
  obtain⟨b,off,spot⟩:=a;dsimp only at g1;subst g1;simp only[Zmp] at f0 f1 f2;exact⟨b,off,x0,x1,x2,rfl,f0,f1,f2,by simpa using he⟩
theorem open_evs {H:Type}{enc:TypeId×Value->H}{w:World}{base:Nat}{spare:Nat->Bool}{held:Bool}{fuel:Nat}{cs:List Value}{x:DataW H×List MemPlace}
 (h:DataW.trod enc prog w base spare held fuel 37 cs=some x):∃ a l cap,cs=[.slice a l.length cap]/\EvsAt w a l/\(∀ ev∈l,okI ev.after/\okI ev.kind/\okI ev.level)/\(a=none->cap=0)/\l.length<=cap/\cap<=maxLen:=by
 have c1:prog.cellsOf 3=1:=by kernel_rfl
 have c3:prog.cellsOf 120=3:=by kernel_rfl
 rcases Znd underlying37 h with e2|⟨a,len,cap,n,e2,hl,hm,g9,hx⟩
 . exact⟨none,[],0,e2,⟨by simp,fun k hk=>by simp at hk⟩,by simp,fun _=>rfl,by simp,by simp⟩
 .
  subst e2;have each:∀ i,i<len->∃ q:Ev,w.cell? (a.add (i*3))=some (.int .i64 q.after)/\w.cell? ((a.add (i*3)).add 1)=some (.int .i64 q.kind)/\w.cell? ((a.add (i*3)).add 2)=some (.int .i64 q.level)/\okI q.after/\okI q.kind/\okI q.level:=by
   intro i hi;obtain⟨cs',y,h1,h2⟩:=hx i hi;rw[c3] at h1;obtain⟨_,hlen,g3⟩:=World.cells?_some h1;obtain⟨xs,k,hk,g8,_,g5,hf⟩:=DataW.trod_struct underlying120 h2
   match xs,g5,cs',hlen with
   | [y0,y1,y2],_,[v0,v1,v2],_ =>
     have g0:=hf 0 _ rfl;have g1:=hf 1 _ rfl;have g2:=hf 2 _ rfl;simp[c1] at g0 g1 g2;obtain⟨n0,e0,_,w0⟩:=DataW.trod_int underlying3 g0;obtain⟨n1,e1,_,w1⟩:=DataW.trod_int underlying3 g1;obtain⟨n2,e2,_,w2⟩:=DataW.trod_int underlying3 g2;simp only[List.cons.injEq,and_true] at e0 e1 e2;subst e0 e1 e2;have f0:=g3 0 (by omega);have f1:=g3 1 (by omega);have f2:=g3 2 (by omega);rw[add0] at f0;exact⟨⟨n0,n1,n2⟩,by simpa using f0,by simpa using f1,by simpa using f2,wfI w0,wfI w1,wfI w2⟩
  obtain⟨q,hq⟩:=Zul each;refine⟨some a,(List.range len).map q,cap,by simp,⟨by unfold maxLen at hm;simp;omega,fun i hi=>?_⟩,?_,by simp,by simpa using hl,hm⟩
  .
   have g6:i<len:=by simpa using hi
   obtain⟨f0,f1,f2,_⟩:=hq i g6;have g4:a.spot=none:=by
    obtain⟨q0,_⟩:=hq 0 (by omega);have:=Zgg q0;simpa [Addr.add] using this
   obtain⟨b,off,spot⟩:=a;dsimp only at g4;subst g4;simp only[Zmp] at f0 f1 f2;exact⟨b,off,rfl,by simpa using f0,by simpa using f1,by simpa using f2⟩
  . intro ev g7;obtain⟨i,hi,rfl⟩:=List.mem_map.1 g7;exact(hq i (by simpa using hi)).2.2.2
theorem open_ask {H:Type}{enc:TypeId×Value->H}{w:World}{base:Nat}{held:Bool}{fuel:Nat}{v:Value}{cs:Array Value}{x:DataW H×List MemPlace}(hv:v=.agg cs)
 (h:DataW.trod enc prog w base (fun _=>true) held fuel 39 v.cells.toList=some x):∃ q ao ae ap co ce cp,v=askV q ao ae ap co ce cp/\AskAt w q ao ae ap/\(∀ ev∈q.plan,okI ev.after/\okI ev.kind/\okI ev.level)/\(ao=none->co=0)/\(ap=none->cp=0)/\q.plan.length<=cp/\cp<=maxLen:=by
 subst hv;obtain⟨xs,k,hk,gh,g5,g7,hf⟩:=DataW.trod_struct underlying39 h;have c1:prog.cellsOf 3=1:=by kernel_rfl
 have c2:prog.cellsOf 23=1:=by kernel_rfl
 have c4:prog.cellsOf 36=1:=by kernel_rfl
 have c5:prog.cellsOf 37=1:=by kernel_rfl
 have c3:prog.cellsOf 39=4:=by kernel_rfl
 rw[c3] at g5;obtain⟨cl⟩:=cs;simp only[Value.cells] at g5 hf
 match xs,g7,cl,g5 with
 | [y0,y1,y2,y3],_,[v0,v1,v2,v3],_ =>
   have g0:=hf 0 _ rfl;have g1:=hf 1 _ rfl;have g2:=hf 2 _ rfl;have g3:=hf 3 _ rfl;simp[c1,c2,c4,c5] at g0 g1 g2 g3;obtain⟨n0,e0,_,w0⟩:=DataW.trod_int underlying3 g0;simp only[List.cons.injEq,and_true] at e0;subst e0;obtain⟨ao,zs,co,e1,ge,gb⟩:∃ a zs c,v1=.slice a zs.length c/\Zay w a zs/\(a=none->c=0):=by
    rcases open_ints underlying23 underlying3 (by kernel_rfl) g1 with ⟨g4,_⟩|⟨x,l,c,zs,g4,_,hl,hm,hz,_,g6,g8⟩
    . simp at g4;subst g4;obtain⟨a,c,e,h1,h2⟩:=sliceIs_of_row (w:=w) (a:=none) (len:=0) (cap:=0) (.inl ⟨rfl,rfl,rfl,rfl⟩);exact⟨a,_,c,e,h1,h2⟩
    . simp at g4;subst g4;obtain⟨a,c,e,h1,h2⟩:=sliceIs_of_row (w:=w) (.inr ⟨_,rfl,hl,hm,by simpa using hz,g6,g8⟩);exact⟨a,_,c,e,h1,h2⟩
   obtain⟨ae,es,ce,e2,gg⟩:=Zta g2;obtain⟨ap,evs,cp,e3,gf,g9,ga,gd,gc⟩:=open_evs g3;simp only[List.cons.injEq,and_true] at e2 e3;subst e1 e2 e3;exact⟨⟨n0,zs,es,evs⟩,ao,ae,ap,co,ce,cp,rfl,⟨wfI w0,ge,gg,gf⟩,g9,gb,ga,gd,gc⟩
end Go.Proofs.YtkbegdkpboklpaaGreat
