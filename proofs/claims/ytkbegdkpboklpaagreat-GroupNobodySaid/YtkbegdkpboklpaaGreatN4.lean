/- Several texts in one file: contracts of the program's functions and what follows from them. -/
import Derived.Test.YtkbegdkpboklpaaGreatN3
set_option linter.unusedSimpArgs false
set_option linter.unusedVariables false
set_option linter.unusedSectionVars false
set_option linter.unnecessarySimpa false
set_option maxRecDepth 100000
set_option maxHeartbeats 8000000
namespace Go.Proofs.YtkbegdkpboklpaaGreat
open Go.Proofs.Tryz
open Go.RowKit
structure NewI (mb gb b6:Nat)(wC:World)(ps:List (List Int))(lv:Value)(W:World):Prop where
 bel:Below wC.heap.size wC W
 blk:W.heap[gb]?=some (.cells #[.pointer (some ⟨mb,0,none⟩),lv] 111 (0,0))
 row:∃ xs,OwnC 23 W (gb+1) lv xs/\Zdx W xs ps/\∀ x∈xs,∀ k,x.ownBlock=some k->k=b6
section
variable {mb gb b6:Nat}{wC W w' w'':World}{ps:List (List Int)}{lv:Value}
theorem NewI.step (h:NewI mb gb b6 wC ps lv W)(hgb:gb=wC.heap.size)(hb6:b6<gb){y v':Value}{g:List Int}{xs:List Value}(hr:OwnC 23 W (gb+1) lv xs)(hs:Zdx W xs ps)(hx:∀ x∈xs,∀ k,x.ownBlock=some k->k=b6)(hy:SliceIs W y g)(hyb:∀ k,y.ownBlock=some k->k=b6)
 (h1:OwnC 23 w' (gb+1) v' (xs++[y])) (e1:w'.os=W.os) (e2:w'.tape=W.tape) (e3:w'.output=W.output) (e4:W.heap.size<=w'.heap.size) (hk:Zda lv v' W w') (hw:w''=w'.setCell ⟨gb,1,none⟩ v') :
 NewI mb gb b6 wC (ps++[g]) v' w'':=by
 have g6:gb<W.heap.size:=(Array.getElem?_eq_some_iff.1 h.blk).1;have g3:∀ k,k<=gb->w'.heap[k]?=W.heap[k]?:=fun k g0=>hk.keep k (by omega) (fun e=>by have:=(hr.lt k e.symm).1;omega)
 have g4:w'.heap[gb]?=some (.cells #[.pointer (some ⟨mb,0,none⟩),lv] 111 (0,0)):=(g3 gb (Nat.le_refl _)).trans h.blk;have g2:∀ k,k≠gb->w''.heap[k]?=w'.heap[k]?:=fun k g0=>by rw[hw];exact Zai g0 _
 have hs':Zdx w'' (xs++[y]) (ps++[g]):=by
  have e:∀ k,k=b6->w''.heap[k]?=W.heap[k]?:=fun k g0=>(g2 k (by omega)).trans (g3 k (by omega))
  exact(hs.same fun x g1 k g0=>e k (hx x g1 k g0)).snoc (hy.same fun k g0=>e k (hyb k g0))
 refine⟨?_,?_,xs++[y],?_,hs',?_⟩
 . have g5:Below wC.heap.size wC w':=⟨e1.trans h.bel.os,e2.trans h.bel.tape,e3.trans h.bel.output,Nat.le_trans h.bel.size e4,fun k g0=>(g3 k (by omega)).trans (h.bel.block k g0)⟩;rw[hw];exact g5.setCell (by dsimp only;omega) _
 . rw[hw];exact Zah g4 _
 . exact h1.same fun k g0=>g2 k (by have:=(h1.lt k g0).1;omega)
 .
  intro x g1 k g0;rcases List.mem_append.1 g1 with h3|h3
  . exact hx x h3 k g0
  . rw[List.mem_singleton] at h3;subst h3;exact hyb k g0
end
structure GrM (base mb gb:Nat)(lv:Value)(gs:List (List Int))(W:World):Prop where
 blk:W.heap[gb]?=some (.cells #[.pointer (some ⟨mb,0,none⟩),lv] 111 (0,0))
 lo:base<=gb
 row:∃ xs,OwnC 23 W base lv xs/\Zdx W xs gs/\∀ x∈xs,∀ k,x.ownBlock=some k->base<=k/\k<W.heap.size
def Zgm (fl:List Int)(i n:Nat):List Bool:=(List.range n).map fun(v:Nat)=>decide ((v:Int)∈fl.take i)
theorem Zpn (fl:List Int)(i n:Nat):(Zgm fl i n).length=n:=by simp[Zgm]
theorem Zpm {fl:List Int}{i n v:Nat}(hv:v<n):(Zgm fl i n).getD v false=decide ((v:Int)∈fl.take i):=by simp[Zgm,List.getD,hv]
theorem Ztw (fl:List Int)(n:Nat):Zbv (Zgm fl 0 n)=List.replicate n (.bool false):=by
 refine List.ext_getElem (by simp[Zgm,Zbv]) fun j h1 h2=>?_
 simp[Zgm,Zbv]
theorem Zff {fl:List Int}{i:Nat}(hi:i<fl.length):fl.take (i+1)=fl.take i++[at0 fl i]:=by rw[List.take_succ_eq_append_getElem hi,Za8 hi]
theorem Ztv {fl:List Int}{i n v:Nat}(hi:i<fl.length)(hv:at0 fl i=(v:Int))(hvn:v<n):(Zgm fl i n).set v true=Zgm fl (i+1) n:=by
 refine List.ext_getElem (by simp[Zgm]) fun j h1 h2=>?_
 have hj:j<n:=by simpa [Zgm] using h2
 rw[List.getElem_set];simp only[Zgm,List.getElem_map,List.getElem_range,Zff hi,List.mem_append,List.mem_singleton,hv]
 by_cases e:v=j
 . subst e;simp
 .
  rw[if_neg e];simp only[decide_eq_decide];constructor
  . exact fun h=>.inl h
  .
   rintro(h|h)
   . exact h
   . omega
theorem Zk9 {fl:List Int}{i:Nat}(hi:i<fl.length)(h:(fl.take i).Nodup)(hn:at0 fl i∉fl.take i):(fl.take (i+1)).Nodup:=by
 rw[Zff hi];refine List.nodup_append.2 ⟨h,by simp,fun a ha b hb e=>?_⟩;rw[List.mem_singleton] at hb;subst hb;subst e;exact hn ha
theorem Zpt {fl:List Int}{i:Nat}(hi:i<fl.length)(hn:at0 fl i∈fl.take i):¬ fl.Nodup:=fun h=>by
 have h1:(fl.take (i+1)).Nodup:=List.Nodup.sublist (List.take_sublist _ _) h;rw[Zff hi] at h1;exact(List.nodup_append.1 h1).2.2 _ hn _ (by simp) rfl
theorem Zz0 {fl:List Int}{n:Nat}(hn:1<=n):0<(fl++Zbn fl n).length:=by
 by_cases h:((0:Nat):Int)∈fl
 . have:=List.length_pos_of_mem h;simp only[List.length_append];omega
 . have h1:Int.ofNat 0∈Zbn fl n:=List.mem_map.2 ⟨0,List.mem_filter.2 ⟨List.mem_range.2 (by omega),by simpa using h⟩,rfl⟩;have:=List.length_pos_of_mem h1;simp only[List.length_append];omega
theorem Zqi {W:World}{b:Nat}{L:List Int}(h:Za4 W (some ⟨b,0,none⟩) L){lo k:Nat}(hk:lo+k<=L.length):SliceIs W (.slice (some ⟨b,if k=0 then 0 else lo,none⟩) k k) ((L.drop lo).take k):=by
 have hl:((L.drop lo).take k).length=k:=by rw[List.length_take,List.length_drop];omega
 refine⟨_,k,by rw[hl],⟨by have:=h.len;omega,fun j hj=>?_⟩,fun e=>by cases e⟩;rw[hl] at hj;refine⟨b,if k=0 then 0 else lo,rfl,?_⟩;rw[if_neg (by omega)];obtain⟨b',o',e,hc⟩:=h.cells (lo+j) (by omega);injection e with e
 injection e with e1 e2 _
 subst e1 e2;rw[Nat.zero_add] at hc;rw[hc];congr 2;unfold at0;simp[List.getD,List.getElem?_take,List.getElem?_drop,hj]
theorem Zud (b l c lo hi:Nat)(h1:lo<=hi)(h2:hi<=c)(w:World):(Instr.sliceAt 23 (.slice (some ⟨b,0,none⟩) l c) (some (.int .i64 lo)) (some (.int .i64 hi)) (some (.int .i64 hi))).run prog w=.ok (.slice (some ⟨b,if hi-lo=0 then 0 else lo,none⟩) (hi-lo) (hi-lo)) w:=by
 have e1:(0:Int)<=hi/\(hi:Int)<=c:=by omega
 have e2:(0:Int)<=hi/\(hi:Int)<=hi:=by omega
 have e3:(0:Int)<=lo/\(lo:Int)<=hi:=by omega
 simp only[Instr.sliceAt,Instr.slice];go_simp
 by_cases e:hi=lo
 . rw[if_pos e,if_pos (by omega)]
 . rw[if_neg e,if_neg (by omega)]
theorem Zib (b l c lo k:Nat){z:Int}(hz:z=((lo+k:Nat):Int))(h2:lo+k<=c)(w:World):(Instr.sliceAt 23 (.slice (some ⟨b,0,none⟩) l c) (some (.int .i64 lo)) (some (.int .i64 z)) (some (.int .i64 z))).run prog w=.ok (.slice (some ⟨b,if k=0 then 0 else lo,none⟩) k k) w:=by
 subst hz;rw[Zud b l c lo (lo+k) (by omega) h2 w];rw[show lo+k-lo=k by omega]
theorem Zzo:(prog.info? 22).map (fun i=>i.size)=some 1:=by kernel_rfl
theorem Zi4 {P:Program}{o:Oper}{a:Act}{w:World}{t:TypeId}{x lo hi mx:Operand}{v:Value}(ho:o.op=.slice t x (some lo) (some hi) (some mx))(hr:(Instr.sliceAt t (a.eval x) (some (a.eval lo)) (some (a.eval hi)) (some (a.eval mx))).run P w=.ok v w):(execOp a.eval o).run P w=.ok (.value v) w:=by
 unfold execOp;simp[ho,hr]
theorem NewI.below {mb gb b6:Nat}{wC W w':World}{ps:List (List Int)}{lv:Value}(h:NewI mb gb b6 wC ps lv W)(hb:Below W.heap.size W w'):NewI mb gb b6 wC ps lv w':=by
 obtain⟨h1,h2,xs,h3,h4,h5⟩:=h;exact⟨h1.trans (hb.mono h1.size),(hb.block _ (Array.getElem?_eq_some_iff.1 h2).1).trans h2,xs,h3.below hb,h4.below hb,h5⟩
theorem Zgz {W:World}{mb n:Nat}{v:Value}{gs:List (List Int)}(hV:∀ W',Below W.heap.size W W'->Calls prog 58 #[.pointer (some ⟨mb,0,none⟩)] W' fun x w'=>x=.returned (.int .i64 (n:Nat))/\W'=w')(hl:Zco W v gs)(hsm:gs.flatten.length<=1000)(hgl:gs.length<=1000)(hn:n<=64)(hn1:1<=n) :
 Calls prog 12 #[.pointer (some ⟨mb,0,none⟩),v] W fun x w'=>Below W.heap.size W w'/\∃ e,Zeu gs n e/\((e≠0/\x=.returned (.tuple #[.pointer none,.int .i64 e]))\/(e=0/\∃ gb lv,x=.returned (.tuple #[.pointer (some ⟨gb,0,none⟩),.int .i64 0])/\GrM W.heap.size mb gb lv (Zd1 gs n) w')):=by
 have HV:=Hd hV;have HL:=Hd hl;obtain⟨a,c,rfl,hJ⟩:=hl.slice;obtain⟨PP,gG⟩:∃ PP:Ending->World->Prop,PP=fun x w'=>Below W.heap.size W w'/\∃ e,Zeu gs n e/\((e≠0/\x=.returned (.tuple #[.pointer none,.int .i64 e]))\/(e=0/\∃ gb lv,x=.returned (.tuple #[.pointer (some ⟨gb,0,none⟩),.int .i64 0])/\GrM W.heap.size mb gb lv (Zd1 gs n) w')):=⟨_,rfl⟩
 have hB:Hid (∀ e w',Zeu gs n e->e≠0->Below W.heap.size W w'->PP (.returned (.tuple #[.pointer none,.int .i64 e])) w'):=Hd (by rw[gG];exact fun e w' h1 h2 h3=>⟨h3,e,h1,.inl ⟨h2,rfl⟩⟩);have k9:Hid (∀ gb lv w',Zeu gs n 0->Below W.heap.size W w'->GrM W.heap.size mb gb lv (Zd1 gs n) w'->PP (.returned (.tuple #[.pointer (some ⟨gb,0,none⟩),.int .i64 0])) w'):=Hd (by rw[gG];exact fun gb lv w' h1 h2 h3=>⟨h2,0,h1,.inr ⟨rfl,gb,lv,rfl,h3⟩⟩);rw[<- gG];clear hV hl hJ gG
 go_enter func12,ntmps12
 go_wp2_with fail
 go_loopw [6,8,23] (fun s6 _ s23 wr=>∃ i:Nat,i<=gs.length/\s23=.int .i64 i/\Hid (OwnI wr W.heap.size s6 (gs.take i).flatten/\Below W.heap.size W wr)) (fun _ _ s23 _=>gs.length-(intOf s23).toNat)
 case atStart=>exact⟨0,Nat.zero_le _,rfl,Hd ⟨Zgd _ _,Below.refl _ _⟩⟩
 case round =>
  obtain⟨i,hi,rfl,HI⟩:=hrel
  by_cases gO:i<gs.length
  .
   have hZ:(i:Int)<gs.length:=by omega
   obtain⟨b,off,c',a2,c2,e1,hc,hz,he⟩:=(HL.out.below HI.out.2).elem gO;injection e1 with e1 _ e3
   subst e1 e3;have ge:=Zey gO;have gn:=Zb1 gO;obtain⟨gi,gm⟩:∃ x,x=gs.getD i []:=⟨_,rfl⟩;rw[<- gm] at hc hz ge gn;have HZ:=Hd hz;have g9:=Hd ge;have h5:=Hd gn;clear hz ge gn gm;go_wp2_with (at_builtin;refine Zcn rfl _ _ rfl W.heap.size W _ (gs.take i).flatten gi a2 c2 rfl rfl (by exact HI.out.1) (by exact HZ.out) (by have:=g9.out;omega) HI.out.2.size HI.out.2 he ?_;intro v1 w1 gf h9 kd ke);go_roundw
   case rel=>exact⟨i+1,by omega,by go_num,Hd ⟨by rw[h5.out];exact gf,h9⟩⟩
   case measure=>simp[intOf];omega
  .
   obtain rfl:i=gs.length:=by omega
   obtain⟨wA,hS⟩:∃ w,w=wr:=⟨_,rfl⟩;subst hS;obtain⟨fl,ge⟩:∃ fl,fl=gs.flatten:=⟨_,rfl⟩;have g6:=HI.out.1;rw[Zed,<- ge] at g6;rw[<- ge] at hsm;have g9:=Hd ge;obtain⟨a6,c6,e6,hd,hW⟩:=g6.sliceIs (by omega);subst e6;have HO:=Hd g6;have hr:=Hd hd;have HB:=Hd HI.out.2;have hA:=Hd (HV.out wA HI.out.2);clear g6 hd ge hW HI;go_wp2_with fail;refine hA.out.mono ?_;rintro x w' ⟨rfl,rfl⟩;clear hA;go_wp2_with (at_make;refine Zjw Zhg rfl _ _ rfl wA.heap.size wA _ n rfl rfl rfl (by omega) (Nat.le_refl _) (Below.refl _ _) ?_;intro g w1 gf gF hs1 hX hg k0;clear k0);have hI:=Hd (HB.out.trans (gF.mono HB.out.size));have h8:=Hd gF;have hu:=Hd (hr.out.below gF);have HM:Hid (OwnB w1 wA.heap.size (.slice (some ⟨g,0,none⟩) n n) (Zgm fl 0 n)):=Hd (by unfold OwnB;rw[Ztw];exact gf);have HG:=Hd hg;clear gf gF hs1 hX hg;go_wp2_with fail
   go_loopw [4,5,11,36] (fun _ _ _ s36 wx=>∃ i:Nat,i<=fl.length/\s36=.int .i64 i/\Hid (w1=wx)/\Hid (∀ x∈fl.take i,0<=x/\x<(n:Int))) (fun _ _ _ s36 _=>fl.length-(intOf s36).toNat)
   case atStart=>exact⟨0,Nat.zero_le _,rfl,Hd rfl,Hd fun x hx=>by simp at hx⟩
   case round =>
    obtain⟨j,hj,rfl,HW,HR⟩:=hrel;have hw:=HW.out;subst hw;clear HW
    by_cases gB:j<fl.length
    .
     have hY:(j:Int)<fl.length:=by omega
     obtain⟨b6,o6,ea,gP⟩:=hu.out.cells j gB;subst ea;obtain⟨x,hx⟩:∃ x,x=at0 fl j:=⟨_,rfl⟩;rw[<- hx] at gP;have gM:x∈fl:=by rw[hx,Za8 gB];exact List.getElem_mem _
     have HX:=Hd hx;have gp:Hid (x<0\/x>=(n:Int)->PP (.returned (.tuple #[.pointer none,.int .i64 9])) w1):=Hd fun hb=>hB.out 9 w1 (.inl ⟨rfl,Zwl (by rw[<- g9.out];exact gM) hb⟩) (by decide) hI.out
     clear hx gM
     by_cases hP:x<0
     . have HF:=Hd (gp.out (.inl hP));clear gp;go_wp2_with fail;exact HF.out
     by_cases gh:x>=(n:Int)
     . have HF:=Hd (gp.out (.inr gh));clear gp;go_wp2_with fail;exact HF.out
     have k7:Hid (∀ x∈fl.take (j+1),0<=x/\x<(n:Int)):=Hd fun y hy=>by
      rw[Zff gB] at hy;rcases List.mem_append.1 hy with h|h
      . exact HR.out y h
      . rw[List.mem_singleton] at h;rw[h,<- HX.out];omega
     clear gp;go_wp2_with fail;go_roundw
     case rel=>exact⟨j+1,by omega,by go_num,by first|exact Hd rfl|exact Hd trivial,k7⟩
     case measure=>simp[intOf];omega
    .
     obtain rfl:j=fl.length:=by omega
     have gX:Hid (∀ x∈fl,0<=x/\x<(n:Int)):=Hd (by have:=HR.out;rwa [List.take_length] at this);clear HR;go_wp2_with fail
     go_loopw [4,5,13,51] (fun _ _ _ s51 wx=>∃ i:Nat,i<=fl.length/\s51=.int .i64 i/\Hid (OwnB wx wA.heap.size (.slice (some ⟨g,0,none⟩) n n) (Zgm fl i n))/\Hid (Below wA.heap.size wA wx)/\Hid (fl.take i).Nodup) (fun _ _ _ s51 _=>fl.length-(intOf s51).toNat)
     case atStart=>exact⟨0,Nat.zero_le _,rfl,HM,h8,Hd (by simp)⟩
     case round =>
      clear HM hu hI h8;obtain⟨j,hj,rfl,HM,gx,gY⟩:=hrel;have h7:=Hd (HB.out.trans (gx.out.mono HB.out.size))
      by_cases gl:j<fl.length
      .
       have hY:(j:Int)<fl.length:=by omega
       obtain⟨b6,o6,ea,gP⟩:=(hr.out.below gx.out).cells j gl;subst ea;obtain⟨q1,q2⟩:=gX.out (at0 fl j) (by rw[Za8 gl];exact List.getElem_mem _);obtain⟨x,hx⟩:∃ x:Nat,at0 fl j=(x:Int):=⟨(at0 fl j).toNat,by omega⟩;rw[hx] at gP;have gJ:x<n:=by omega
       have kh:(x:Int)<(n:Int):=by omega
       have q0:=HM.out.cellB x (by rw[Zpn];exact gJ);have p0:=HM.out.frozen x;rw[Zpm gJ] at q0;obtain⟨bb,gQ⟩:∃ b,b=decide ((x:Int)∈fl.take j):=⟨_,rfl⟩;rw[<- gQ] at q0;have HX:=Hd hx;have hH:=Hd gQ;clear hx gQ q1 q2;cases bb with
       | true =>
         have HF:=Hd (hB.out 6 wr (.inr (.inl ⟨rfl,by unfold InG;rw[<- g9.out];exact gX.out,by
          rw[<- g9.out];refine Zpt gl ?_;rw[HX.out];exact of_decide_eq_true hH.out.symm⟩)) (by decide) h7.out)
         go_wp2_with fail;exact HF.out
       | false =>
         have kb:Hid (OwnB (wr.setCell ⟨g,x,none⟩ (.bool true)) wA.heap.size (.slice (some ⟨g,0,none⟩) n n) (Zgm fl (j+1) n)):=Hd (by rw[<- Ztv gl HX.out gJ];exact HM.out.setB x true);have hO:Hid (Below wA.heap.size wA (wr.setCell ⟨g,x,none⟩ (.bool true))):=Hd (gx.out.setCell HG.out _);have gE:Hid (fl.take (j+1)).Nodup:=Hd (Zk9 gl gY.out (by rw[HX.out];exact of_decide_eq_false hH.out.symm));go_wp2_with fail;go_roundw
         case rel=>exact⟨j+1,by omega,by go_num,kb,hO,gE⟩
         case measure=>simp[intOf];omega
      .
       obtain rfl:j=fl.length:=by omega
       have hh:(Value.slice a6 fl.length c6).ownBlock≠some g:=fun e=>by have h2:=(HO.out.lt g e).2;have h3:=HG.out;omega
       have hE:Hid (OwnB wr wA.heap.size (.slice (some ⟨g,0,none⟩) n n) (Zgm fl fl.length n)):=HM;have gE:Hid fl.Nodup:=Hd (by have:=gY.out;rwa [List.take_length] at this);have hC:=Hd (HO.out.below gx.out);have hG:=Hd hh;have HSZ:=Hd gx.out.size;obtain⟨wB,hR⟩:∃ w,w=wr:=⟨_,rfl⟩;subst hR;clear HM gY gx hh;go_wp2_with fail
       go_loopw [6,14,15,65] (fun s6 _ _ s65 wx=>∃ k:Nat,k<=n/\s65=.int .i64 k/\Hid (OwnI wx W.heap.size s6 (fl++Zbn fl k))/\Hid (OwnB wx wA.heap.size (.slice (some ⟨g,0,none⟩) n n) (Zgm fl fl.length n))/\Hid (Below W.heap.size W wx)/\Hid (s6.ownBlock≠some g)) (fun _ _ _ s65 _=>n-(intOf s65).toNat)
       case atStart=>exact⟨0,Nat.zero_le _,rfl,by rw[show Zbn fl 0=[] from rfl,List.append_nil];exact hC,hE,h7,hG⟩
       case round =>
        clear hE hC h7 hG;obtain⟨k,hk,rfl,gu,gw,ga,gA⟩:=hrel
        by_cases gN:k<n
        .
         have kl:(k:Int)<(n:Int):=by omega
         have q0:=gw.out.cellB k (by rw[Zpn];exact gN);rw[Zpm gN,List.take_length] at q0;have kk:=Zd2 fl k
         by_cases gt:(k:Int)∈fl
         .
          rw[decide_eq_true gt] at q0;have gD:Hid (OwnI wr W.heap.size u6 (fl++Zbn fl (k+1))):=Hd (by rw[Zmr gt];exact gu.out);clear gt gu;go_wp2_with fail;go_roundw
          case rel=>exact⟨k+1,by omega,by go_num,gD,gw,ga,gA⟩
          case measure=>simp[intOf];omega
         .
          rw[decide_eq_false gt] at q0;have ka:=Hd (Zpr gt);clear gt;go_wp2_with (at_builtin;refine Zcm wr rfl _ _ rfl W.heap.size W _ (fl++Zbn fl k) (k:Int) rfl rfl rfl (by simp) (by exact gu.out) (by rw[List.length_append];omega) ga.out.size ga.out ?_;intro v5 w5 g5 ho hT g8);have gD:Hid (OwnI w5 W.heap.size v5 (fl++Zbn fl (k+1))):=Hd (by rw[ka.out,<- List.append_assoc];exact g5)
          have hM:Hid (OwnB w5 wA.heap.size (.slice (some ⟨g,0,none⟩) n n) (Zgm fl fl.length n)):=Hd (gw.out.keep g8.keep (fun b hb e=>by
           injection hb with hb
           subst hb;exact gA.out e.symm))
          have hK:Hid (v5.ownBlock≠some g):=Hd (g8.ne gA.out (gw.out.lt g rfl).2);have hN:=Hd ho;clear g5 ho hT g8 gu gw gA ga;go_roundw
          case rel=>exact⟨k+1,by omega,by go_num,gD,hM,hN,hK⟩
          case measure=>simp[intOf];omega
        .
         obtain rfl:k=n:=by omega
         obtain⟨wC,hQ⟩:∃ w,w=wr:=⟨_,rfl⟩;subst hQ;obtain⟨L,hL⟩:∃ L,L=fl++Zbn fl k:=⟨_,rfl⟩;have g6:=gu.out;have gR:=Zz0 (fl:=fl) hn1;have kn:L.length<=1064:=by have:=Zd2 fl k;rw[hL,List.length_append];omega
         rw[<- hL] at g6 gR;rcases g6.2 with ⟨_,h0⟩|⟨b6,c7,cur,e7,hm,hf,kg,_⟩
         . omega
         subst e7;have gk:b6<wC.heap.size:=(Array.getElem?_eq_some_iff.1 hf).1;have ha:Za4 wC (some ⟨b6,0,none⟩) L:=Zfk (by omega) g6;have hq:=Hd ha;have h4:=Hd hL;have gH:=Hd (show W.heap.size<=b6/\b6<wC.heap.size from ⟨hm,gk⟩);have kf:fl.length<=L.length:=by rw[hL,List.length_append];omega
         obtain⟨wD,gK⟩:∃ w,w=wC.alloc (.cells #[.pointer (some ⟨mb,0,none⟩),.slice none 0 0] 111):=⟨_,rfl⟩;have k3:Hid (_=wD):=Hd gK.symm
         have gv:Hid (NewI mb wC.heap.size b6 wC [] (.slice none 0 0) wD):=Hd (by
          rw[gK];exact⟨Zad _ _,heap_alloc_new _ _,[],Zns _ _ _,Zdx.nil _,fun x hx=>by simp at hx⟩)
         clear g6 ha hL hf hm gk gK gu gw gA;go_upto_region 30 with fail;rw[k3.out];go_wp2_with fail
         go_loopw [16,18,82] (fun s16 _ s82 wx=>∃ i:Nat,i<=gs.length/\s82=.int .i64 i/\(∃ p:Nat,s16=.int .i64 p/\Hid (p=(gs.take i).flatten.length))/\Hid (∃ lv,NewI mb wC.heap.size b6 wC (gs.take i) lv wx)) (fun _ _ s82 _=>gs.length-(intOf s82).toNat)
         case atStart=>exact⟨0,Nat.zero_le _,rfl,⟨0,rfl,Hd (by simp)⟩,Hd ⟨_,gv.out⟩⟩
         case round =>
          clear gv;obtain⟨i,hi,rfl,⟨p,rfl,HP⟩,HI⟩:=hrel
          by_cases gd:i<gs.length
          .
           have hZ:(i:Int)<gs.length:=by omega
           obtain⟨lv,g7⟩:=HI.out;have g0:=g7.below (Zaf wr 1);obtain⟨b,off,c',a2,c2,e1,hc,hz,he⟩:=(HL.out.below (ga.out.trans (g7.bel.mono ga.out.size))).elem gd;injection e1 with e1 _ e3
           subst e1 e3;have gC:=Zey gd;have gn:=Zb1 gd;obtain⟨gi,gm⟩:∃ x,x=gs.getD i []:=⟨_,rfl⟩;rw[<- gm] at hc hz gC gn;rw[<- HP.out,<- g9.out] at gC;have gr:p+gi.length<=c7:=by omega
           have h6:Hid ((L.drop p).take gi.length=gi):=Hd (by
            have e:L=(gs.take i).flatten++(gi++(gs.drop (i+1)).flatten++Zbn fl k):=by
             rw[h4.out,g9.out,gm,<- List.append_assoc,<- List.append_assoc,<- Zb1 gd,<- List.flatten_append,List.take_append_drop]
            rw[e,HP.out,List.drop_left,List.append_assoc,List.take_left])
           have h5:=Hd gn;have kc:=Hd gm;have gq:(p:Int)+gi.length=((p+gi.length:Nat):Int):=by omega
           have HY:=Hd (Zqi (hq.out.below (g0.bel.trans (Below.refl _ _))) (lo:=p) (k:=gi.length) (by omega));obtain⟨q0,q1,fz⟩:=cells2 g0.blk;have gv:=Hd g0;obtain⟨xs,gh,gg,gz⟩:=g0.row;have go:=Hd gh;have gU:=Hd gg;have gT:=Hd gz;have gy:wC.heap.size<wr.drew.heap.size:=(Array.getElem?_eq_some_iff.1 g0.blk).1;have gS:Hid (xs.length<=1000):=Hd (by have:=gg.len;rw[List.length_take] at this;omega);obtain⟨yo,hy⟩:∃ yo:Option Addr,yo=some ⟨b6,if gi.length=0 then 0 else p,none⟩:=⟨_,rfl⟩;rw[h6.out] at HY;have gV:Hid (∀ w:World,(Instr.sliceAt 23 (.slice (some ⟨b6,0,none⟩) L.length c7) (some (.int .i64 p)) (some (.int .i64 (IntKind.i64.wrap ((p:Int)+gi.length)))) (some (.int .i64 (IntKind.i64.wrap ((p:Int)+gi.length))))).run prog w=.ok (.slice yo gi.length gi.length) w):=Hd fun w=>by rw[hy];exact Zib b6 L.length c7 p gi.length (by rw[IntWalk.i64_in _ (by omega)];exact gq) gr w
           have gI:Hid ((Value.slice yo gi.length gi.length).ownBlock=some b6):=Hd (by rw[hy];rfl);rw[<- hy] at HY;have hU:p+gi.length<=1064:=by omega
           clear g7 g0 hz gC gn gm gh gg gz hy HI gq gr gR;go_upto_region 34 with fail;clear hc;refine Zam (fun w':World=>w'.cell? ⟨wC.heap.size,1,none⟩=some lv/\True) true 20 [(0,false),(1,false),(2,false),(3,false),(4,false),(5,false),(6,false),(7,false),(8,false),(9,false),(10,false),(11,false),(12,false),(13,false),(14,false),(15,false),(16,true),(17,true),(18,false),(19,false),(20,true)] (by kernel_rfl) (by kernel_rfl) ⟨q1,trivial⟩ ?_;simp only[planned,Zcc]
           iterate 15
            refine Zaj rfl ?_;apply Exists.intro;refine⟨fun w' hw=>?_,?_⟩
            . obtain⟨h1,_⟩:=hw;go_simp;rfl
            simp only[Zae]
           refine Zaj rfl ⟨.slice yo gi.length gi.length,fun w' hw=>?_,?_⟩
           . exact Zi4 rfl (gV.out w')
           simp only[Zae];refine Zd9 rfl (w':=wr.drew.alloc (.cells #[.slice yo gi.length gi.length] 23)) (v:=.slice (some ⟨wr.drew.heap.size,0,none⟩) 1 1) (by go_simp) ⟨((Zad wr.drew _).cell (p:=⟨wC.heap.size,1,none⟩) gy).trans q1,trivial⟩ ?_;simp only[Zae];refine Zno rfl ?_;refine Zby Zik wr.drew rfl _ _ rfl (wC.heap.size+1) lv xs (.slice yo gi.length gi.length) rfl rfl rfl rfl rfl (by exact go.out) (by have:=gS.out;omega) (by omega) ?_;intro v5 w5 g5 g1 g2 g3 g4 g8;obtain⟨w6,gj⟩:∃ w,w=w5.setCell ⟨wC.heap.size,1,none⟩ v5:=⟨_,rfl⟩
           have gZ:Hid (NewI mb wC.heap.size b6 wC (gs.take (i+1)) v5 w6):=Hd (by
            have e:gs.take (i+1)=gs.take i++[gi]:=by rw[List.take_succ_eq_append_getElem gd,kc.out];simp[List.getD,gd]
            rw[e];exact NewI.step gv.out rfl gH.out.2 go.out gU.out gT.out HY.out (fun k hk=>by rw[gI.out] at hk;injection hk with hk;exact hk.symm) g5 g1 g2 g3 g4 g8 gj)
           have gc:=g8.keep wC.heap.size gy (fun e=>by have:=(go.out.lt _ e.symm).1;omega);have q1':=(World.cell?_of_block (w:=wr.drew) (w':=w5) (a:=⟨wC.heap.size,1,none⟩) gc).trans q1;have fz':=(World.frozen?_of_block (w:=wr.drew) (w':=w5) (a:=⟨wC.heap.size,1,none⟩) gc).trans (fz 1);refine⟨rfl,⟨q1',trivial⟩,?_⟩;simp only[Zae]
           iterate 2
            refine Zaj rfl ?_;apply Exists.intro;refine⟨fun w' hw=>?_,?_⟩
            . obtain⟨h1,_⟩:=hw;go_simp;rfl
            simp only[Zae]
           obtain⟨a5,k5,ev5,_⟩:=g5.slice;refine Zck (w':=w6) rfl rfl (by rw[gj];exact Zc3 Zzo q1' fz' (by rw[ev5];rfl) (by rw[ev5];rfl)) ?_;clear q0 q1 q1' fz fz' gc g5 g1 g2 g3 g4 g8 gj ev5;go_wp2_with fail;go_roundw
           case rel=>exact⟨i+1,by omega,by go_num,⟨p+gi.length,by go_num,Hd (by rw[h5.out,List.length_append,<- HP.out])⟩,Hd ⟨_,gZ.out⟩⟩
           case measure=>simp[intOf];omega
          .
           obtain rfl:i=gs.length:=by omega
           have gL:p=fl.length:=by rw[HP.out,Zed,g9.out]
           subst gL
           have hD:Hid (∃ lv,NewI mb wC.heap.size b6 wC (gs++((Zbn fl k).take 0).map fun v=>[v]) lv wr):=Hd (by
            obtain⟨lv,h⟩:=HI.out;rw[List.take_length] at h;exact⟨lv,by rw[List.take_zero,List.map_nil,List.append_nil];exact h⟩)
           have hF:Hid (L.length=fl.length+(Zbn fl k).length):=Hd (by rw[h4.out,List.length_append]);clear HI HP;go_wp2_with fail
           go_loopw [16] (fun s16 wx=>∃ t:Nat,t<=(Zbn fl k).length/\s16=.int .i64 ((fl.length+t:Nat):Int)/\Hid (∃ lv,NewI mb wC.heap.size b6 wC (gs++((Zbn fl k).take t).map fun v=>[v]) lv wx)) (fun s16 _=>L.length-(intOf s16).toNat)
           case atStart=>exact⟨0,Nat.zero_le _,rfl,hD⟩
           case round =>
            clear hD;obtain⟨t,ht,rfl,HI⟩:=hrel;obtain⟨p,hp⟩:∃ p,p=fl.length+t:=⟨_,rfl⟩;rw[<- hp]
            by_cases gk:t<(Zbn fl k).length
            .
             have kj:p<L.length:=by rw[hF.out];omega
             have ki:(p:Int)<L.length:=by omega
             obtain⟨lv,g7⟩:=HI.out;have g0:=g7.below (Zaf wr 1);have gr:p+1<=c7:=by omega
             obtain⟨x,hx⟩:∃ x,x=(Zbn fl k)[t]:=⟨_,rfl⟩
             have h6:Hid ((L.drop p).take 1=[x]):=Hd (by
              rw[h4.out,hp,List.drop_append,List.drop_of_length_le (Nat.le_add_right _ _),List.nil_append,Nat.add_sub_cancel_left,List.drop_eq_getElem_cons gk,List.take_succ_cons,List.take_zero,hx])
             have k4:Hid ((Zbn fl k).take (t+1)=(Zbn fl k).take t++[x]):=Hd (by rw[List.take_succ_eq_append_getElem gk,hx]);have gq:(p:Int)+1=((p+1:Nat):Int):=by omega
             have HY:=Hd (Zqi (hq.out.below g0.bel) (lo:=p) (k:=1) (by omega));rw[h6.out] at HY;obtain⟨q0,q1,fz⟩:=cells2 g0.blk;have gv:=Hd g0;obtain⟨xs,gh,gg,gz⟩:=g0.row;have go:=Hd gh;have gU:=Hd gg;have gT:=Hd gz;have gy:wC.heap.size<wr.drew.heap.size:=(Array.getElem?_eq_some_iff.1 g0.blk).1;have gS:Hid (xs.length<=2000):=Hd (by have h1:=gg.len;have:=Zd2 fl k;rw[List.length_append,List.length_map,List.length_take] at h1;omega);obtain⟨yo,hy⟩:∃ yo:Option Addr,yo=some ⟨b6,if 1=0 then 0 else p,none⟩:=⟨_,rfl⟩;have gV:Hid (∀ w:World,(Instr.sliceAt 23 (.slice (some ⟨b6,0,none⟩) L.length c7) (some (.int .i64 p)) (some (.int .i64 ((p:Int)+1))) (some (.int .i64 ((p:Int)+1)))).run prog w=.ok (.slice yo 1 1) w):=Hd fun w=>by rw[hy];exact Zib b6 L.length c7 p 1 gq gr w
             have k6:Hid (∀ w:World,(Instr.sliceAt 23 (.slice (some ⟨b6,0,none⟩) L.length c7) (some (.int .i64 p)) (some (.int .i64 (IntKind.i64.wrap ((p:Int)+1)))) (some (.int .i64 (IntKind.i64.wrap ((p:Int)+1))))).run prog w=.ok (.slice yo 1 1) w):=Hd fun w=>by rw[hy];exact Zib b6 L.length c7 p 1 (by rw[IntWalk.i64_in _ (by omega)];exact gq) gr w
             have gI:Hid ((Value.slice yo 1 1).ownBlock=some b6):=Hd (by rw[hy];rfl);rw[<- hy] at HY;have hU:p+1<=1064:=by omega
             have k8:=Hd hp;clear g7 g0 gh gg gz hy HI gq gr gR hx hp;go_upto_region 39 with fail;refine Zam (fun w':World=>w'.cell? ⟨wC.heap.size,1,none⟩=some lv/\True) true 16 [(0,false),(1,false),(2,false),(3,false),(4,false),(5,false),(6,false),(7,false),(8,false),(9,false),(10,false),(11,false),(12,true),(13,true),(14,false),(15,false),(16,true)] (by kernel_rfl) (by kernel_rfl) ⟨q1,trivial⟩ ?_;simp only[planned,Zcc]
             iterate 11
              refine Zaj rfl ?_;apply Exists.intro;refine⟨fun w' hw=>?_,?_⟩
              . obtain⟨h1,_⟩:=hw;go_simp;rfl
              simp only[Zae]
             refine Zaj rfl ⟨.slice yo 1 1,fun w' hw=>?_,?_⟩
             . first|exact Zi4 rfl (gV.out w')|exact Zi4 rfl (k6.out w')
             simp only[Zae];refine Zd9 rfl (w':=wr.drew.alloc (.cells #[.slice yo 1 1] 23)) (v:=.slice (some ⟨wr.drew.heap.size,0,none⟩) 1 1) (by go_simp) ⟨((Zad wr.drew _).cell (p:=⟨wC.heap.size,1,none⟩) gy).trans q1,trivial⟩ ?_;simp only[Zae];refine Zno rfl ?_;refine Zby Zik wr.drew rfl _ _ rfl (wC.heap.size+1) lv xs (.slice yo 1 1) rfl rfl rfl rfl rfl (by exact go.out) (by have:=gS.out;omega) (by omega) ?_;intro v5 w5 g5 g1 g2 g3 g4 g8;obtain⟨w6,gj⟩:∃ w,w=w5.setCell ⟨wC.heap.size,1,none⟩ v5:=⟨_,rfl⟩
             have gZ:Hid (NewI mb wC.heap.size b6 wC (gs++((Zbn fl k).take (t+1)).map fun v=>[v]) v5 w6):=Hd (by
              rw[k4.out,List.map_append,<- List.append_assoc];exact NewI.step gv.out rfl gH.out.2 go.out gU.out gT.out HY.out (fun k hk=>by rw[gI.out] at hk;injection hk with hk;exact hk.symm) g5 g1 g2 g3 g4 g8 gj)
             have gc:=g8.keep wC.heap.size gy (fun e=>by have:=(go.out.lt _ e.symm).1;omega);have q1':=(World.cell?_of_block (w:=wr.drew) (w':=w5) (a:=⟨wC.heap.size,1,none⟩) gc).trans q1;have fz':=(World.frozen?_of_block (w:=wr.drew) (w':=w5) (a:=⟨wC.heap.size,1,none⟩) gc).trans (fz 1);refine⟨rfl,⟨q1',trivial⟩,?_⟩;simp only[Zae]
             iterate 2
              refine Zaj rfl ?_;apply Exists.intro;refine⟨fun w' hw=>?_,?_⟩
              . obtain⟨h1,_⟩:=hw;go_simp;rfl
              simp only[Zae]
             obtain⟨a5,k5,ev5,_⟩:=g5.slice;refine Zck (w':=w6) rfl rfl (by rw[gj];exact Zc3 Zzo q1' fz' (by rw[ev5];rfl) (by rw[ev5];rfl)) ?_;clear q0 q1 q1' fz fz' gc g5 g1 g2 g3 g4 g8 gj ev5;go_wp2_with fail;go_roundw
             case rel=>exact⟨t+1,by omega,by rw[k8.out];go_num,Hd ⟨_,gZ.out⟩⟩
             case measure=>simp[intOf];omega
            .
             obtain rfl:t=(Zbn fl k).length:=by omega
             have gL:p=L.length:=by rw[hp,hF.out]
             subst gL;obtain⟨lv,g7⟩:=HI.out
             have HF:=Hd (k9.out wC.heap.size lv wr (.inr (.inr ⟨rfl,by unfold InG;rw[<- g9.out];exact gX.out,by rw[<- g9.out];exact gE.out⟩)) (ga.out.trans (g7.bel.mono ga.out.size)) (by
              rw[Zem,<- g9.out,<- List.take_length (l:=Zbn fl k)];obtain⟨xs,h1,h2,h3⟩:=g7.row;refine⟨g7.blk,ga.out.size,xs,?_,h2,fun x hx b hb=>?_⟩
              . obtain⟨e1,e2⟩:=h1;refine⟨e1,e2.imp id ?_⟩;rintro⟨g',cap,cur,hv,km,rest⟩;exact⟨g',cap,cur,hv,by have:=ga.out.size;omega,rest⟩
              . have e:=h3 x hx b hb;subst e;exact⟨gH.out.1,Nat.lt_of_lt_of_le gH.out.2 g7.bel.size⟩))
             clear g7 HI;go_wp2_with fail;exact HF.out
end Go.Proofs.YtkbegdkpboklpaaGreat

namespace Go.Proofs.YtkbegdkpboklpaaGreat
open Go.Proofs.Tryz
def ofFn (n:Nat)(F:Nat->Int):List Int:=(List.range n).map F
theorem Zdm (n:Nat)(F:Nat->Int):(ofFn n F).length=n:=by simp[ofFn]
theorem Zj4 {n:Nat}{F:Nat->Int}{j:Nat}(h:j<n):at0 (ofFn n F) j=F j:=by
 rw[Za8 (by rw[Zdm];exact h)];simp[ofFn]
theorem Yac {zs:List Int}{n:Nat}{F:Nat->Int}(hl:zs.length=n)(h:∀ j,j<n->at0 zs j=F j):zs=ofFn n F :=
 Zex (by rw[Zdm,hl]) fun k hk=>by rw[Zj4 (by omega),h k (by omega)]
theorem Zew {xs ys:List Int}{j:Nat}(h:j<xs.length):at0 (xs++ys) j=at0 xs j:=by simp[at0,List.getD,List.getElem?_append_left h]
theorem Zgk {xs ys:List Int}{j:Nat}(h:xs.length<=j):at0 (xs++ys) j=at0 ys (j-xs.length):=by simp[at0,List.getD,List.getElem?_append_right h]
theorem Zrs {xs:List Int}{i j:Nat}(h:j<i):at0 (xs.take i) j=at0 xs j:=by simp[at0,List.getD,h]
theorem Zxp {xs:List Int}{i j:Nat}:at0 (xs.drop i) j=at0 xs (i+j):=by simp[at0,List.getD,List.getElem?_drop]
theorem Zqs {xs:List Int}{i j:Nat}{y:Int}(h:i<xs.length):at0 (xs.set i y) j=if i=j then y else at0 xs j:=by
 simp only[at0,List.getD,List.getElem?_set]
 by_cases e:i=j
 . subst e;simp[h]
 . simp[e]
theorem Zgs {zs:List Int}{k j:Nat}(h:k+1<zs.length):at0 (Zef zs (k:Int)) j=if j=k then at0 zs (k+1) else if j=k+1 then at0 zs k else at0 zs j:=by
 rw[Zsn h,Zqs (by simp;omega),Zqs (by omega)]
 by_cases e1:j=k
 . subst e1;simp
 .
  by_cases e2:j=k+1
  . subst e2;simp
  .
   have e3:¬ k=j:=fun e=>e1 e.symm
   have e4:¬ k+1=j:=fun e=>e2 e.symm
   simp[e1,e2,e3,e4]
theorem Zk8 (n:Nat):∀ l:List Nat,l.Nodup->(∀ x∈l,x<n)->l.length<=n:=by
 induction n with
 | zero =>
   intro l _ h;cases l with
   | nil=>simp
   | cons x l=>have:=h x (by simp);omega
 | succ n ih =>
   intro l hn h
   by_cases hm:n∈l
   .
    have h1:=ih (l.erase n) (hn.erase n) (fun x hx=>by
     have h2:=(hn.mem_erase_iff).1 hx;have:=h x h2.2;have:=h2.1;omega)
    rw[List.length_erase_of_mem hm] at h1;omega
   .
    have h1:=ih l hn (fun x hx=>by
     have:=h x hx;have:x≠n:=fun e=>hm (e ▸ hx)
     omega)
    omega
theorem Zt0 {n:Nat}{l:List Nat}(hn:l.Nodup)(h:∀ x∈l,x<n)(hl:l.length=n){x:Nat}(hx:x<n):x∈l:=by
 rcases Classical.em (x∈l) with h1|h1
 . exact h1
 .
  have:=Zk8 n (x::l) (List.nodup_cons.2 ⟨h1,hn⟩) (fun y hy=>by
   rcases List.mem_cons.1 hy with rfl|hy
   . exact hx
   . exact h y hy)
  simp at this;omega
theorem Zc9 {zs:List Int}(h:Za1 zs=true){x:Nat}(hx:x<zs.length):∃ k,k<zs.length/\at0 zs k=(x:Int):=by
 obtain⟨h1,h2⟩:=(Zbq zs).1 h;have g0:(zs.map Int.toNat).Nodup:=by
  rw[List.nodup_iff_pairwise_ne,List.pairwise_iff_getElem];intro i j hi hj g1;simp only[List.length_map] at hi hj;simp only[List.getElem_map];have a:=h2 j hj i g1;have b:=(h1 i hi).1;have c:=(h1 j hj).1;rw[Za8 hi] at a b;rw[Za8 hj] at a c;omega
 have hb:∀ y∈zs.map Int.toNat,y<zs.length:=by
  intro y hy;obtain⟨z,hz,rfl⟩:=List.mem_map.1 hy;obtain⟨k,hk,rfl⟩:=List.mem_iff_getElem.1 hz;have:=h1 k hk;rw[Za8 hk] at this;omega
 have hm:=Zt0 g0 hb (by simp) hx;obtain⟨z,hz,g2⟩:=List.mem_map.1 hm;obtain⟨k,hk,rfl⟩:=List.mem_iff_getElem.1 hz;refine⟨k,hk,?_⟩;have:=(h1 k hk).1;rw[Za8 hk] at this ⊢;omega
theorem Zcb {zs:List Int}(h:Za1 zs=true){k:Nat}(hk:k<zs.length):Zau zs (at0 zs k)=k :=
 Zg6 hk rfl fun j hj=>((Zbq zs).1 h).2 k hk j hj
def Zi8 (zs:List Int)(k:Nat):List Int:=ofFn zs.length fun x=>if Zau zs (x:Int)<k then max (Zau zs (x:Int)) 0 else 0
theorem Zth (zs:List Int):Zi8 zs 0=List.replicate zs.length 0:=by
 symm;refine Yac (by simp) fun j hj=>?_
 have:at0 (List.replicate zs.length 0) j=0:=by rw[Za8 (by simpa using hj)];simp
 rw[this];split<;>omega
theorem Ztg {zs:List Int}(h:Za1 zs=true){k:Nat}(hk:k<zs.length):(Zi8 zs k).set (at0 zs k).toNat (k:Int)=Zi8 zs (k+1):=by
 have hr:=((Zbq zs).1 h).1 k hk;have hp:=Zcb h hk;refine Zex (by simp[Zi8,Zdm]) fun j hj=>?_
 have g0:j<zs.length:=by simpa [Zi8,Zdm] using hj
 rw[Zqs (by simp[Zi8,Zdm];omega)];unfold Zi8;rw[Zj4 g0,Zj4 g0]
 by_cases e:(at0 zs k).toNat=j
 .
  have ej:(j:Int)=at0 zs k:=by omega
  rw[if_pos e,ej,hp,if_pos (by omega)];omega
 .
  rw[if_neg e];obtain⟨q,hq,g2⟩:=Zc9 h g0;have g1:=Zcb h hq;rw[g2] at g1;rw[g1];have:q≠k:=by rintro rfl;omega
  by_cases c:(q:Int)<k
  . rw[if_pos c,if_pos (by omega)]
  . rw[if_neg c,if_neg (by omega)]
theorem Zvr {zs:List Int}(h:Za1 zs=true):Zi8 zs zs.length=Zel zs:=by
 unfold Zel;rw[if_pos h];refine Zex (by simp[Zi8,Zdm,Zcz]) fun j hj=>?_
 have g0:j<zs.length:=by simpa [Zi8,Zdm] using hj
 unfold Zi8;rw[Zj4 g0,Za8 (by simpa [Zcz] using g0)];obtain⟨q,hq,g2⟩:=Zc9 h g0;have g1:=Zcb h hq;rw[g2] at g1;simp[iota,g1];omega
end Go.Proofs.YtkbegdkpboklpaaGreat

namespace Go.Proofs.YtkbegdkpboklpaaGreat
open Go.Proofs.Tryz
theorem Zg9 {zs:List Int}(h:Za1 zs=true){i j:Nat}(hi:i<zs.length)(hj:j<zs.length)(he:at0 zs i=at0 zs j):i=j:=by
 have h2:=((Zbq zs).1 h).2;rcases Nat.lt_trichotomy i j with g0|e|g0
 . exact(h2 j hj i g0 he).elim
 . exact e
 . exact(h2 i hi j g0 he.symm).elim
theorem Zt7 {zs ys:List Int}(h:Za1 zs=true)(hl:ys.length=zs.length)(p:Nat->Nat)(hp:∀ j,j<zs.length->p j<zs.length)
 (hinj:∀ i j,i<zs.length->j<zs.length->p i=p j->i=j) (hy:∀ j,j<zs.length->at0 ys j=at0 zs (p j)):Za1 ys=true:=by
 rw[Zbq,hl];have h1:=((Zbq zs).1 h).1;refine⟨fun k hk=>by rw[hy k hk];exact h1 _ (hp k hk),fun i hi k hk he=>?_⟩;rw[hy i hi,hy k (by omega)] at he;have:=hinj k i (by omega) hi (Zg9 h (hp k (by omega)) (hp i hi) he);omega
theorem Zt8 {zs:List Int}(h:Za1 zs=true)(i:Int):Za1 (Zef zs i)=true:=by
 by_cases g0:0<=i/\i+1<zs.length
 .
  obtain⟨k,rfl⟩:=Int.eq_ofNat_of_zero_le g0.1;have hk:k+1<zs.length:=by omega
  refine Zt7 h (Zeb _ _) (fun j=>if j=k then k+1 else if j=k+1 then k else j) ?_ ?_ ?_
  .
   intro j hj;repeat' split
   all_goals omega
  .
   intro i j hi hj;repeat' split
   all_goals omega
  .
   intro j hj;rw[Zgs hk];repeat' split
   all_goals rfl
 . rw[Zxc g0];exact h
theorem Ze2 {zs:List Int}(h:Za1 zs=true):(Zel zs).length=zs.length:=by unfold Zel;rw[if_pos h];simp[Zcz]
theorem Zf2 {zs:List Int}(h:Za1 zs=true){x:Nat}(hx:x<zs.length):at0 (Zel zs) x=Zau zs (x:Int):=by
 rw[Za8 (by rw[Ze2 h];exact hx)];simp only[Zel,h,if_true];simp[iota]
end Go.Proofs.YtkbegdkpboklpaaGreat

namespace Go.Proofs.YtkbegdkpboklpaaGreat
open Go.Proofs.Tryz
def invs (f:Int->Int):List Int->Nat
 | []=>0
 | x::xs=>xs.countP (fun y=>decide (f x>f y))+invs f xs
theorem Znm (f:Int->Int)(l:List Int)(x y:Int)(r:List Int)(h:f x>f y):invs f (l++x::y::r)=invs f (l++y::x::r)+1:=by
 induction l with
 | nil =>
   simp only[List.nil_append,invs,List.countP_cons];have h2:¬ f y>f x:=by omega
   simp only[h,h2,decide_true,decide_false,if_true,Bool.false_eq_true,if_false];omega
 | cons a l ih =>
   simp only[List.cons_append,invs,ih,List.countP_append,List.countP_cons];omega
theorem Zw6 {zs:List Int}{k:Nat}(h:k+1<zs.length):zs=zs.take k++at0 zs k::at0 zs (k+1)::zs.drop (k+2):=by
 have h1:=List.take_append_drop k zs;rw[Zj5 (by omega),Zj5 h] at h1;exact h1.symm
theorem Zug {zs:List Int}{k:Nat}(h:k+1<zs.length):Zef zs (k:Int)=zs.take k++at0 zs (k+1)::at0 zs k::zs.drop (k+2):=by
 refine Zex (by rw[Zeb];simp;omega) fun j hj=>?_
 rw[Zgs h];have hk:(zs.take k).length=k:=by simp;omega
 by_cases e1:j<k
 . rw[Zew (by omega),Zrs e1,if_neg (by omega),if_neg (by omega)]
 .
  rw[Zgk (by omega),hk]
  by_cases e2:j=k
  . subst e2;rw[if_pos rfl,Nat.sub_self];rfl
  .
   by_cases e3:j=k+1
   . subst e3;rw[if_neg e2,if_pos rfl,show k+1-k=1 by omega];rfl
   .
    rw[if_neg e2,if_neg e3,show j-k=(j-k-2)+2 by omega]
    show _=at0 (zs.drop (k+2)) (j-k-2)
    rw[Zxp];congr 1;omega
theorem Zvt {f:Int->Int}{zs:List Int}{k:Nat}(h:k+1<zs.length)(hf:f (at0 zs k)>f (at0 zs (k+1))):invs f zs=invs f (Zef zs (k:Int))+1:=by
 rw[Zug h]
 conv=>lhs;rw[Zw6 h]
 exact Znm f _ _ _ _ hf
structure Upto (bs cur:List Int)(i:Nat):Prop where
 len:cur.length=bs.length
 right:Za1 cur=true
 pre:∀ j,j<i->at0 cur j=at0 bs j
theorem Zz4 {bs:List Int}(hb:Za1 bs=true){i:Nat}(hi:i<bs.length)(d:Nat):∀ cur:List Int,Upto bs cur i->i+d<bs.length->at0 cur (i+d)=at0 bs i ->
 Upto bs (bub cur i d).1 (i+1)/\invs (Zau bs) cur=invs (Zau bs) (bub cur i d).1+d/\(∀ s∈(bub cur i d).2,0<=s/\s+1<bs.length)/\(bub cur i d).2.foldl Zef cur=(bub cur i d).1:=by
 induction d with
 | zero =>
   intro cur hu hd hx;refine⟨⟨hu.len,hu.right,fun j hj=>?_⟩,rfl,by simp[bub],rfl⟩
   by_cases e:j=i
   . subst e;exact hx
   . exact hu.pre j (by omega)
 | succ d ih =>
   intro cur hu hd hx;have hk:(i+d)+1<cur.length:=by rw[hu.len];omega
   have g1:Upto bs (Zef cur ((i+d:Nat):Int)) i:=by
    refine⟨by rw[Zeb,hu.len],Zt8 hu.right _,fun j hj=>?_⟩;rw[Zgs hk,if_neg (by omega),if_neg (by omega)];exact hu.pre j hj
   have g0:at0 (Zef cur ((i+d:Nat):Int)) (i+d)=at0 bs i:=by
    rw[Zgs hk,if_pos rfl];exact hx
   obtain⟨h1,h2,h3,h4⟩:=ih _ g1 (by omega) g0;refine⟨h1,?_,?_,?_⟩
   .
    have g2:Zau bs (at0 cur (i+d))>Zau bs (at0 cur (i+d+1)):=by
     have e1:at0 cur (i+d+1)=at0 bs i:=hx;rw[e1,Zcb hb hi];have hr:=((Zbq cur).1 hu.right).1 (i+d) (by omega);obtain⟨q,hq,g3⟩:=Zc9 hb (x:=(at0 cur (i+d)).toNat) (by rw[<- hu.len];omega);have e2:at0 bs q=at0 cur (i+d):=by omega
     rw[<- e2,Zcb hb hq];rcases Nat.lt_or_ge i q with g4|g5
     . omega
     .
      exfalso
      by_cases e3:q=i
      . subst e3;have:=Zg9 hu.right (i:=q+d) (j:=q+d+1) (by omega) (by omega) (by rw[<- e2,e1]);omega
      . have h5:=hu.pre q (by omega);rw[e2] at h5;have:=Zg9 hu.right (i:=q) (j:=i+d) (by omega) (by omega) h5;omega
    rw[Zvt hk g2,h2]
    show _=invs _ (bub (Zef cur ((i+d:Nat):Int)) i d).1+(d+1)
    omega
   .
    intro s hs;rw[bub] at hs;rcases List.mem_cons.1 hs with rfl|hs
    . omega
    . exact h3 s hs
   . exact h4
theorem Zy3 {bs cur:List Int}(h:Upto bs cur bs.length):cur=bs:=Zex h.len fun k hk=>h.pre k (by rw[<- h.len];exact hk)
theorem Zvs {bs:List Int}(hb:Za1 bs=true):invs (Zau bs) bs=0:=by
 have key:∀ n k,n+k=bs.length->invs (Zau bs) (bs.drop k)=0:=by
  intro n
  induction n with
  | zero=>intro k hk;rw[List.drop_of_length_le (by omega)];rfl
  | succ n ih =>
    intro k hk;rw[Zj5 (by omega)];simp only[invs];rw[ih (k+1) (by omega),Nat.add_zero,List.countP_eq_zero];intro y hy;obtain⟨j,hj,rfl⟩:=List.mem_iff_getElem.1 hy;simp only[List.length_drop] at hj;have e:(bs.drop (k+1))[j]'(by simpa using hj)=at0 bs (k+1+j):=by rw[Za8 (by omega),List.getElem_drop]
    rw[e,Zcb hb (by omega),Zcb hb (by omega)];simp;omega
 have:=key bs.length 0 (by omega);simpa using this
theorem Zw7 {bs:List Int}(hb:Za1 bs=true)(n:Nat):∀ (k:Nat) (cur:List Int),n+k=bs.length->Upto bs cur k ->
 (Zfx cur (bs.drop k) k).length=invs (Zau bs) cur/\(∀ s∈Zfx cur (bs.drop k) k,0<=s/\s+1<bs.length)/\(Zfx cur (bs.drop k) k).foldl Zef cur=bs:=by
 induction n with
 | zero =>
   intro k cur hk hu;obtain rfl:k=bs.length:=by omega
   obtain rfl:=Zy3 hu;rw[List.drop_of_length_le (Nat.le_refl _)];exact⟨(Zvs hb).symm,by simp[Zfx],rfl⟩
 | succ n ih =>
   intro k cur hk hu;have g0:k<bs.length:=by omega
   rw[Zli cur bs k g0];obtain⟨q,hq,g5⟩:=Zc9 hu.right (x:=(at0 bs k).toNat) (by rw[hu.len];have:=((Zbq bs).1 hb).1 k g0;omega);have g4:=((Zbq bs).1 hb).1 k g0;have e1:at0 cur q=at0 bs k:=by omega
   have hp:Zau cur (at0 bs k)=q:=by rw[<- e1];exact Zcb hu.right hq
   have g6:k<=q:=by
    rcases Nat.lt_or_ge q k with g1|g2
    . have:=hu.pre q g1;rw[e1] at this;have:=Zg9 hb (i:=k) (j:=q) g0 (by omega) this;omega
    . exact g2
   have hd:∃ d,q=k+d:=⟨q-k,by omega⟩;obtain⟨d,rfl⟩:=hd;have g3:Zqu cur (at0 bs k) k=bub cur k d:=by unfold Zqu;rw[hp];congr 1;omega
   rw[g3];obtain⟨h1,h2,h3,h4⟩:=Zz4 hb g0 d cur hu (by rw[<- hu.len];exact hq) e1;obtain⟨i1,i2,i3⟩:=ih (k+1) _ (by omega) h1;refine⟨?_,?_,?_⟩
   . rw[List.length_append,i1,Zqv,h2];omega
   .
    intro s hs;rcases List.mem_append.1 hs with hs|hs
    . exact h3 s hs
    . exact i2 s hs
   . rw[List.foldl_append,h4];exact i3
theorem Zv1 {as_ bs:List Int}(ha:Za1 as_=true)(hb:Za1 bs=true)(hl:as_.length=bs.length) :
 (Zdn as_ bs).length=invs (Zau bs) as_/\(∀ s∈Zdn as_ bs,0<=s/\s+1<bs.length)/\(Zdn as_ bs).foldl Zef as_=bs:=by
 have:=Zw7 hb bs.length 0 as_ (by omega) ⟨hl,ha,by omega⟩;unfold Zdn;rw[if_pos ⟨ha,hb,hl⟩];simpa using this
open Go.RowKit
def levZ (zs:List Int)(x:Int):Nat:=(Zau zs x).toNat
def AdjP (gs:List (List Int))(zs:List Int):Prop:=∀ g∈gs,∀ t,t+1<g.length->Zau zs (at0 g (t+1))=Zau zs (at0 g t)+1
def Zfh (gs:List (List Int))(zs:List Int)(n:Nat):Prop:=zs.length=n/\Za1 zs=true/\AdjP gs zs
structure Zgr (gs:List (List Int))(n:Nat):Prop where
 ap:Zuo gs
 mem:∀ x,x∈gs.flatten↔0<=x/\x<(n:Int)
theorem Zmq {fl:List Int}{n:Nat}{x:Int}:x∈Zbn fl n↔(0<=x/\x<(n:Int))/\x∉fl:=by
 unfold Zbn;rw[List.mem_map];constructor
 . rintro⟨v,hv,rfl⟩;obtain⟨h1,h2⟩:=List.mem_filter.1 hv;have h3:=List.mem_range.1 h1;refine⟨⟨Int.natCast_nonneg v,Int.ofNat_lt.2 h3⟩,of_decide_eq_true h2⟩
 . rintro⟨⟨h1,h2⟩,h3⟩;refine⟨x.toNat,List.mem_filter.2 ⟨List.mem_range.2 (by omega),decide_eq_true ?_⟩,Int.toNat_of_nonneg h1⟩;rw[Int.toNat_of_nonneg h1];exact h3
theorem Zps (fl:List Int)(n:Nat):(Zbn fl n).Nodup:=by
 unfold Zbn;refine List.pairwise_map.2 ?_;have h:((List.range n).filter fun(v:Nat)=>decide ((v:Int)∉fl)).Nodup:=List.Nodup.sublist List.filter_sublist List.nodup_range;exact h.imp fun g0 e=>g0 (Int.ofNat.inj e)
theorem Zkw (l:List Int):(l.map fun v=>[v]).flatten=l:=by
 induction l with
 | nil=>rfl
 | cons a l ih=>simp[ih]
theorem Zh7 {gs:List (List Int)}{n:Nat}(h:Zeu gs n 0):Zgr (Zd1 gs n) n:=by
 obtain⟨h1,h2⟩:=h.ok;have e:(Zd1 gs n).flatten=gs.flatten++Zbn gs.flatten n:=by rw[Zem,List.flatten_append,Zkw]
 refine⟨?_,fun x=>?_⟩
 . unfold Zuo;rw[e];exact List.nodup_append.2 ⟨h2,Zps _ _,fun a ha b hb g0=>(Zmq.1 hb).2 (g0 ▸ ha)⟩
 .
  rw[e,List.mem_append,Zmq];constructor
  .
   rintro(hx|hx)
   . exact h1 x hx
   . exact hx.1
  .
   intro hx
   by_cases hm:x∈gs.flatten
   . exact .inl hm
   . exact .inr ⟨hx,hm⟩
theorem Zf5 {gs:List (List Int)}{pl:List Nat}{i:Nat}(hi:i<pl.length):gather gs pl=gather gs (pl.take i)++(grp gs pl[i]++gather gs (pl.drop (i+1))):=by
 have e:pl=pl.take i++pl[i]::pl.drop (i+1):=by rw[<- List.drop_eq_getElem_cons hi,List.take_append_drop]
 unfold gather;rw[<- List.flatMap_cons,<- List.flatMap_append,<- e]
theorem Zz1 {A g B:List Int}{t:Nat}(h:t<g.length):at0 (A++(g++B)) (A.length+t)=at0 g t:=by
 rw[Zgk (by omega),Nat.add_sub_cancel_left,Zew h]
section
variable {gs:List (List Int)}{n:Nat}{lev:Int->Nat}{pl:List Nat}
theorem Placed.nodup (h:Placed gs lev pl):pl.Nodup:=h.inc.imp fun hab e=>by subst e;omega
theorem Zs6 (h:Placed gs lev pl)(x:Int):x∈gather gs pl↔x∈gs.flatten:=by
 unfold gather;rw[List.mem_flatMap,List.mem_flatten];constructor
 . rintro⟨i,hi,hx⟩;have:=(h.mem i).1 hi;exact⟨grp gs i,by rw[Ze1 this.1];exact List.getElem_mem _,hx⟩
 . rintro⟨g,hg,hx⟩;obtain⟨i,hi,rfl⟩:=List.getElem_of_mem hg;exact⟨i,(h.mem i).2 ⟨hi,by rw[Ze1 hi];intro e;rw[e] at hx;simp at hx⟩,by rw[Ze1 hi];exact hx⟩
theorem Zo4 (hw:Zuo gs)(h:Placed gs lev pl):(gather gs pl).Nodup:=by
 unfold gather;rw[List.Nodup,List.pairwise_flatMap];refine⟨fun i hi=>?_,?_⟩
 . have h1:=(h.mem i).1 hi;rw[Ze1 h1.1];exact(List.pairwise_flatten.1 hw).1 _ (List.getElem_mem _)
 .
  refine h.nodup.imp_of_mem fun {a b} ha hb g0 x hx y hy e=>?_
  subst e;exact g0 (Zky hw ((h.mem a).1 ha).1 ((h.mem b).1 hb).1 hx hy)
theorem Zqb {zs:List Int}(hn:zs.Nodup)(hm:∀ x,x∈zs↔0<=x/\x<(n:Int)):zs.length=n/\Za1 zs=true:=by
 have hl:zs.length=n:=by
  have hp:zs.Perm (iota n):=(List.perm_ext_iff_of_nodup hn (by
   unfold iota;exact List.pairwise_map.2 (List.nodup_range.imp fun g0 e=>g0 (Int.ofNat.inj e)))).2 fun x=>by
    rw[hm];unfold iota;rw[List.mem_map];constructor
    . rintro⟨h1,h2⟩;exact⟨x.toNat,List.mem_range.2 (by omega),Int.toNat_of_nonneg h1⟩
    . rintro⟨v,hv,rfl⟩;exact⟨Int.natCast_nonneg v,Int.ofNat_lt.2 (List.mem_range.1 hv)⟩
  rw[hp.length_eq,Zcz]
 refine⟨hl,(Zbq zs).2 ⟨fun k hk=>?_,fun i hi k hk e=>?_⟩⟩
 . rw[Za8 hk];have:=(hm _).1 (List.getElem_mem hk);omega
 . rw[Za8 hi,Za8 (show k<zs.length by omega)] at e;exact(List.pairwise_iff_getElem.1 hn k i (by omega) hi hk) e
theorem Zgy (hw:Zgr gs n)(h:Placed gs lev pl):(gather gs pl).length=n/\Za1 (gather gs pl)=true :=
 Zqb (Zo4 hw.ap h) fun x=>(Zs6 h x).trans (hw.mem x)
theorem Zin (hw:Zgr gs n)(h:Placed gs lev pl){i t:Nat}(hi:i<pl.length)(ht:t<(grp gs pl[i]).length):Zau (gather gs pl) (at0 (grp gs pl[i]) t)=((gather gs (pl.take i)).length+t:Nat):=by
 have hr:=(Zgy hw h).2;have e:=Zf5 (gs:=gs) hi;have h1:at0 (gather gs pl) ((gather gs (pl.take i)).length+t)=at0 (grp gs pl[i]) t:=by
  conv=>lhs;rw[e]
  exact Zz1 ht
 rw[<- h1];refine Zcb hr ?_
 conv=>rhs;rw[e]
 simp only[List.length_append];omega
theorem Zh6 (hw:Zgr gs n)(h:Placed gs lev pl):Zfh gs (gather gs pl) n:=by
 obtain⟨h1,h2⟩:=Zgy hw h;refine⟨h1,h2,fun g hg t ht=>?_⟩;obtain⟨j,hj,rfl⟩:=List.getElem_of_mem hg;obtain⟨i,hi,e⟩:=List.getElem_of_mem ((h.mem j).2 ⟨hj,by rw[Ze1 hj];intro e;rw[e] at ht;simp at ht⟩);have eg:grp gs pl[i]=gs[j]:=by rw[e,Ze1 hj]
 have a1:=Zin hw h hi (t:=t) (by rw[eg];omega);have a2:=Zin hw h hi (t:=t+1) (by rw[eg];omega);rw[eg] at a1 a2;rw[a1,a2];omega
theorem Zj7 {g:List Int}(h:g≠[]):g.headD 0=at0 g 0:=by
 cases g with
 | nil=>exact(h rfl).elim
 | cons a r=>rfl
theorem Zne (hw:Zgr gs n)(h:Placed gs lev pl):Placed gs (levZ (gather gs pl)) pl:=by
 refine⟨h.mem,List.pairwise_iff_getElem.2 fun i j hi hj g0=>?_⟩;have ne:∀ k (hk:k<pl.length),grp gs pl[k]≠[]:=fun k hk=>((h.mem _).1 (List.getElem_mem hk)).2
 have lp:∀ k (hk:k<pl.length),0<(grp gs pl[k]).length:=fun k hk=>List.length_pos_iff.2 (ne k hk)
 have a1:=Zin hw h hi (t:=0) (lp i hi);have a2:=Zin hw h hj (t:=0) (lp j hj);unfold levZ;rw[Zj7 (ne i hi),Zj7 (ne j hj),a1,a2];have hs:(gather gs (pl.take i)).length+(grp gs pl[i]).length<=(gather gs (pl.take j)).length:=by
  have e:=Zf5 (gs:=gs) (pl:=pl.take j) (i:=i) (by rw[List.length_take];omega);have e1:(pl.take j)[i]'(by rw[List.length_take];omega)=pl[i]:=List.getElem_take;rw[List.take_take,Nat.min_eq_left (by omega),e1] at e;rw[e];simp only[List.length_append];omega
 have:=lp i hi;omega
theorem Zww {zs:List Int}(h:Za1 zs=true):zs.Pairwise fun a b=>levZ zs a<levZ zs b:=by
 refine List.pairwise_iff_getElem.2 fun i j hi hj g0=>?_
 unfold levZ;rw[<- Za8 hi,<- Za8 hj,Zcb h hi,Zcb h hj];omega
theorem Zwx {zs:List Int}(h:Za1 zs=true)(hl:zs.length=n){x:Int}(hx:0<=x/\x<(n:Int)):x∈zs:=by
 obtain⟨k,hk,e⟩:=Zc9 h (x:=x.toNat) (by omega);rw[Za8 hk] at e;have:zs[k]=x:=by rw[e];omega
 rw[<- this];exact List.getElem_mem _
theorem Zfv (hw:Zgr gs n){zs:List Int}(h:Za1 zs=true)(hl:zs.length=n):Placed gs (levZ zs) (Za3 gs zs) :=
 Zp5 hw.ap (Zww h) fun i v hv=>Zwx h hl ((hw.mem v).1 (by
  have hi:i<gs.length:=by
   rcases Nat.lt_or_ge i gs.length with c|c
   . exact c
   . unfold grp at hv;simp[List.getD,List.getElem?_eq_none c] at hv
  rw[Ze1 hi] at hv;exact List.mem_flatten.2 ⟨_,List.getElem_mem hi,hv⟩))
theorem Zrr {zs:List Int}:AdjP (Zd1 gs n) zs↔AdjP gs zs:=by
 constructor
 . exact fun h g hg=>h g (by unfold Zd1;exact List.mem_append_left _ hg)
 .
  intro h g hg t ht;unfold Zd1 at hg;rcases List.mem_append.1 hg with hg|hg
  . exact h g hg t ht
  . obtain⟨v,_,rfl⟩:=List.mem_map.1 hg;simp at ht
end
open Go.RowKit
def bitB (i v:Nat):Bool:=decide (i/2^v%2=1)
def Zd5 (i n:Nat):List Bool:=(List.range n).map (bitB i)
def tabB (n:Nat)(F:BF):List Bool:=(List.range (2^n)).map fun i=>F (Zdc (Zd5 i n))
theorem Zfb (i n:Nat):(Zd5 i n).length=n:=by simp[Zd5]
theorem Zif (n:Nat)(F:BF):(tabB n F).length=2^n:=by simp[tabB]
theorem Zso {n:Nat}{F:BF}{i:Nat}(hi:i<2^n):(tabB n F).getD i false=F (Zdc (Zd5 i n)):=by simp[tabB,List.getD,hi]
theorem Ya5 {bs:List Bool}{n:Nat}{F:BF}(hl:bs.length=2^n)(h:∀ i,i<2^n->bs.getD i false=F (Zdc (Zd5 i n))):bs=tabB n F:=by
 refine List.ext_getElem (by rw[hl,Zif]) fun i h1 h2=>?_
 have:=h i (by omega);have e:(tabB n F).getD i false=F (Zdc (Zd5 i n)):=Zso (by omega);rw[<- this] at e;simpa [List.getD,h1,h2] using e.symm
theorem Ziu {k:Nat}(h:k<=20):2^k<=1048576:=Nat.pow_le_pow_right (by omega) h
theorem Zz2 (v:Nat)(hv:v<=20)(w:World):Calls prog 169 #[.int .i64 v] w fun x w'=>x=.returned (.int .i64 (2^v:Nat))/\w=w':=by
 have HS:Hid (∀ k,k<=v->2^k<=1048576):=Hd fun k hk=>Ziu (by omega)
 go_enter func169,ntmps169
 go_wp2_with fail
 go_loopw [3,4] (fun s3 s4 wr=>∃ k p:Nat,k<=v/\s3=.int .i64 p/\s4=.int .i64 k/\w=wr/\Hid (2^k=p)) (fun _ s4 _=>v-(intOf s4).toNat)
 case atStart=>exact⟨0,1,Nat.zero_le _,rfl,rfl,rfl,Hd rfl⟩
 case round =>
  obtain⟨k,p,hk,rfl,rfl,rfl,HP⟩:=hrel
  by_cases g0:k<v
  .
   have hp:p<=1048576:=by rw[<- HP.out];exact HS.out k hk
   go_wp2_with fail;go_roundw
   case rel=>exact⟨k+1,2*p,by omega,by go_num,by go_num,by simp,Hd (by rw[Nat.pow_succ,HP.out];omega)⟩
   case measure=>simp[intOf];omega
  .
   have he:k=v:=by omega
   have HE:Hid (2^v=p):=by rw[<- he];exact HP
   clear he;go_wp2_with fail;go_ret;exact⟨by rw[HE.out];rfl,rfl⟩
theorem Zn4 {α:Type}(a b:α)(k n:Nat)(h:k<n):(List.replicate k a++List.replicate (n-k) b).set k a=List.replicate (k+1) a++List.replicate (n-(k+1)) b:=by
 have e:n-k=(n-(k+1))+1:=by omega
 rw[e,List.replicate_succ,List.set_append_right _ _ (by simp),List.length_replicate,Nat.sub_self,List.set_cons_zero,List.replicate_succ',List.append_assoc];rfl
theorem Zp4 (b:Bool)(n:Nat)(hn:n<=16)(w:World):Calls prog 38 #[.bool b,.int .i64 n] w fun x w'=>∃ g,x=.returned (.slice (some ⟨g,0,none⟩) (2^n) (2^n))/\OwnB w' w.heap.size (.slice (some ⟨g,0,none⟩) (2^n) (2^n)) (List.replicate (2^n) b)/\Below w.heap.size w w':=by
 have HS:Hid (∀ k,k<=n->2^k<=1048576):=Hd fun k hk=>Ziu (by omega)
 obtain⟨L,hL⟩:∃ L,L=2^n:=⟨_,rfl⟩;have HL:=Hd hL;have g8:L<=1048576:=by rw[hL];exact Ziu (by omega)
 rw[<- hL];clear hL
 go_enter func38,ntmps38
 go_wp2_with fail
 go_loopw [5,6] (fun s5 s6 wr=>∃ k p:Nat,k<=n/\s5=.int .i64 p/\s6=.int .i64 k/\w=wr/\Hid (2^k=p)) (fun _ s6 _=>n-(intOf s6).toNat)
 case atStart=>exact⟨0,1,Nat.zero_le _,rfl,rfl,rfl,Hd rfl⟩
 case round =>
  obtain⟨k,p,hk,rfl,rfl,rfl,HP⟩:=hrel
  by_cases g3:k<n
  .
   have hp:p<=1048576:=by rw[<- HP.out];exact HS.out k hk
   go_wp2_with fail;go_roundw
   case rel=>exact⟨k+1,2*p,by omega,by go_num,by go_num,by simp,Hd (by rw[Nat.pow_succ,HP.out];omega)⟩
   case measure=>simp[intOf];omega
  .
   have he:k=n:=by omega
   have hp:p=L:=by rw[<- HP.out,he,HL.out]
   subst hp;clear he;go_wp2_with (at_make;refine Zjw Zhg rfl _ _ rfl w.heap.size w _ p rfl rfl rfl (by omega) (Nat.le_refl _) (Below.refl _ _) ?_;intro g w1 g2 g6 hs1 g7 g5 g4;clear g4)
   go_loopw [8] (fun i wr=>∃ j:Nat,j<=p/\i=.int .i64 j/\OwnB wr w.heap.size (.slice (some ⟨g,0,none⟩) p p) (List.replicate j b++List.replicate (p-j) false)/\Below w.heap.size w wr) (fun i _=>p-(intOf i).toNat)
   case atStart=>exact⟨0,by omega,rfl,by unfold OwnB;rw[show Zbv (List.replicate 0 b++List.replicate (p-0) false)=List.replicate p (Value.bool false) by simp[Zbv]];exact g2,g6⟩
   case round =>
    obtain⟨j,hj,rfl,g0,g1⟩:=hrel
    by_cases g3:j<p
    .
     have q0:=g0.cellB j (by simp;omega);have p0:=g0.frozen j;go_wp2_with fail;go_roundw
     case rel=>exact⟨j+1,by omega,by go_num,by rw[<- Zn4 b false j p g3];exact g0.setB j b,g1.setCell g5 _⟩
     case measure=>simp[intOf];omega
    .
     obtain rfl:j=p:=by omega
     go_wp2_with fail;go_ret;exact⟨_,rfl,by simpa using g0,g1⟩
theorem Ztb (n:Nat)(hn:n<=64)(w:World):Calls prog 184 #[.int .i64 n,.int .i64 0,.int .i64 64] w fun x w'=>x=.returned (.int .i64 n)/\w=w':=by
 go_enter func184,ntmps184
 go_wp2_with fail;go_ret;exact⟨rfl,rfl⟩
theorem Zmc (i n:Nat):Zd5 i (n+1)=Zd5 i n++[bitB i n]:=by simp[Zd5,List.range_succ]
theorem Zws (i n:Nat)(hi:i<=1048576)(hn:n<=16)(w:World):Calls prog 135 #[.int .u64 i,.int .i64 n] w fun x w'=>∃ v,x=.returned v/\OwnB w' w.heap.size v (Zd5 i n)/\Below w.heap.size w w':=by
 have HH:Hid (∀ W,Calls prog 184 #[.int .i64 (n:Nat),.int .i64 0,.int .i64 64] W fun x w'=>x=.returned (.int .i64 (n:Nat))/\W=w'):=Hd fun W=>Ztb n (by omega) W
 go_enter func135,ntmps135
 go_wp2_with fail
 go_loopw [0,5,6] (fun s0 s5 s6 wr=>∃ j q:Nat,j<=n/\q<=1048576/\s6=.int .i64 j/\s0=.int .u64 q/\Hid (i/2^j=q)/\OwnB wr w.heap.size s5 (Zd5 i j)/\w.heap.size<=wr.heap.size/\Below w.heap.size w wr) (fun _ _ s6 _=>n-(intOf s6).toNat)
 case atStart=>exact⟨0,i,Nat.zero_le _,hi,rfl,rfl,Hd (by simp),Zen _ w _ (Nat.le_refl _),by simp,Zad w _⟩
 case round =>
  obtain⟨j,q,hj,hq,rfl,rfl,HQ,g0,g5,g1⟩:=hrel
  by_cases g7:j<n
  .
   have HB:Hid (((q:Int).tmod 2 == 1)=bitB i j):=by
    refine Hd ?_
    show ((q:Int).tmod 2 == 1)=bitB i j
    unfold bitB;rw[HQ.out];have e1:Int.tmod (q:Int) 2=((q%2:Nat):Int):=by rw[Int.tmod_eq_emod_of_nonneg (by omega)];rfl
    rw[e1]
    by_cases h:q%2=1
    . rw[h];rfl
    .
     have:((q%2:Nat):Int)≠1:=by omega
     rw[beq_eq_false_iff_ne.2 this,decide_eq_false h]
   have g2:=Hd g0;have g3:=Hd g1;clear g0 g1;go_wp2_with fail;refine(HH.out _).mono ?_;rintro x w2 ⟨rfl,rfl⟩;go_wp2_with (at_builtin;refine Zby Zhg _ rfl _ _ rfl w.heap.size _ (Zbv (Zd5 i j)) _ rfl rfl rfl rfl rfl (by exact g2.out) (by simp[Zbv,Zfb];omega) g5 ?_;intro v1 w1 g4 e1 e2 e3 e4 g6);go_roundw
   case rel =>
    refine⟨j+1,q/2,by omega,by omega,by go_num,rfl,Hd ?_,?_,by omega,Zfr g3.out g2.out e1 e2 e3 e4 g6 g5⟩
    . rw[Nat.pow_succ,<- Nat.div_div_eq_div_mul,HQ.out]
    .
     rw[Zmc];have e5:Zbv (Zd5 i j++[bitB i j])=Zbv (Zd5 i j)++[.bool (bitB i j)]:=by simp[Zbv]
     unfold OwnB;rw[e5,<- HB.out];exact g4
   case measure=>simp[intOf];omega
  .
   have he:j=n:=by omega
   subst he;have g2:=Hd g0;have g3:=Hd g1;clear g0 g1;go_wp2_with fail;refine(HH.out _).mono ?_;rintro x w2 ⟨rfl,rfl⟩;go_wp2_with fail;go_ret;exact⟨_,rfl,g2.out,g3.out⟩
open Go.RowKit
end Go.Proofs.YtkbegdkpboklpaaGreat

namespace Go.Proofs.YtkbegdkpboklpaaGreat
open Go.Proofs.Tryz
open Go.RowKit
theorem Ztf {o:Own}{w:World}{r:Role}{a:Option Addr}{cap:Nat}{xs:List Nat}(h:RowR o w r 3 1 (.slice a xs.length cap) xs.length (xs.map nat64))(hl:xs.length<=1000000):Za4 w a (xs.map Int.ofNat):=by
 refine⟨by simp;omega,fun k hk=>?_⟩;simp only[List.length_map] at hk;obtain⟨g,cap',he,_⟩:=h.shape (by omega);cases he;refine⟨g,0,rfl,?_⟩;have h1:=h.cell k (by simpa using hk);rw[Nat.zero_add,h1,Za8 (by simpa using hk)];simp[nat64,hk]
theorem Zl8 {o:Own}{w:World}{sb:Nat}{d:Zag}(h:Zax o w sb d)(hlt:Zal o w)(hl:d.vars.length<=64) :
 Calls prog 78 #[.pointer (some ⟨sb,0,none⟩)] w fun x w'=>∃ v,x=.returned v/\OwnI w' w.heap.size v (d.vars.map Int.ofNat)/\Below w.heap.size w w':=by
 obtain⟨s,h⟩:=h;obtain⟨c0,c1,c2,c3,c4,f0⟩:=cells5 h.blk;obtain⟨d0,d1,_⟩:=cells2 h.lev;have lsb:sb<w.heap.size:=Zaa c0;have llb:s.lb<w.heap.size:=Zaa d0;obtain⟨a,cap,hv,_,_,g1,_⟩:=h.vars.slice;have g0:=h.vars;rw[hv] at d0 g0;have HI:=Hd (Ztf g0 (by omega));have HN:=Hd g1;have e:d.vars.length=(d.vars.map Int.ofNat).length:=by simp
 rw[e] at d0;have g6:(d.vars.map Int.ofNat).length<=64:=by rw[<- e];exact hl
 generalize d.vars.map Int.ofNat=zs at *
 clear h hv g0 e g1 hl
 go_enter func78,ntmps78
 go_wp2_with (at_builtin;refine Zcn rfl _ _ rfl w.heap.size w _ [] zs _ _ rfl rfl (Zhk w w.heap.size (Nat.le_refl _)) (HI.out.below (Zad _ _)) (by simp;omega) (by simp) (Zad _ _) HN.out ?_;intro v1 w1 g2 g3 g4 g5);go_ret;exact⟨_,rfl,by simpa using g2,g3⟩
theorem Zjq {F:Phi}{o:Own}{w:World}{mb:Nat}{m:ManD}(h:Zfo F o w mb m)(hlt:Zal o w)(hl:m.d.vars.length<=64) :
 Calls prog 25 #[.pointer (some ⟨mb,0,none⟩)] w fun x w'=>∃ v,x=.returned v/\OwnI w' w.heap.size v (m.d.vars.map Int.ofNat)/\Below w.heap.size w w':=by
 obtain⟨s,h⟩:=h;obtain⟨c0,c1,c2,c3,c4,c5,f0⟩:=cells6 h.blk;have HP:=Hd (Zl8 h.store hlt hl);clear h hlt hl
 go_enter func25,ntmps25
 go_wp2_with fail;refine HP.out.mono ?_;rintro x w' ⟨v,rfl,h1,h2⟩;have H1:=Hd h1;have H2:=Hd h2;clear h1 h2;go_wp2_with fail;go_ret;exact⟨v,rfl,H1.out,H2.out⟩
open Go.RowKit
end Go.Proofs.YtkbegdkpboklpaaGreat

namespace Go.Proofs.YtkbegdkpboklpaaGreat
open Go.Proofs.Tryz
open Go.RowKit Go.Shelf
attribute [local go_sem] Oper.semAt_some
def Zeh (p:Zao)(k:Nat):List Nat:=(List.range k).filter p.tk
def Zdy (p:Zao):List Nat:=Zeh p p.at_.length
theorem Zjf {p:Zao}{k:Nat}(h:p.tk k=true):Zeh p (k+1)=Zeh p k++[k]:=by
 unfold Zeh;rw[List.range_succ,List.filter_append];simp[h]
theorem Zqn {p:Zao}{k:Nat}(h:p.tk k=false):Zeh p (k+1)=Zeh p k:=by
 unfold Zeh;rw[List.range_succ,List.filter_append];simp[h]
theorem Zuh (p:Zao){k m:Nat}:k<=m->∃ suf,Zeh p k++suf=Zeh p m:=by
 induction m with
 | zero => intro h; obtain rfl : k = 0 := by omega
           exact⟨[],by simp⟩
 | succ m ih =>
   intro h
   by_cases e:k=m+1
   . subst e;exact⟨[],by simp⟩
   .
    obtain⟨suf,hs⟩:=ih (by omega);cases h2:p.tk m with
    | false=>exact⟨suf,by rw[Zqn h2];exact hs⟩
    | true=>exact⟨suf++[m],by rw[Zjf h2,<- hs,List.append_assoc]⟩
theorem Zui {p:Zao}{k:Nat}(h:p.tk k=true)(hk:k<p.at_.length):∃ suf,Zeh p k++k::suf=Zdy p:=by
 obtain⟨suf,hs⟩:=Zuh p (k:=k+1) (m:=p.at_.length) (by omega);rw[Zjf h,List.append_assoc] at hs;exact⟨suf,hs⟩
theorem Zmp {p:Zao}{pre suf:List Nat}{x:Nat}(h:pre++x::suf=Zdy p):p.tk x=true:=by
 have:x∈Zdy p:=by rw[<- h];simp
 exact(List.mem_filter.1 this).2
structure ItS (n₀:Nat)(o:Own)(w0:World)(pb:Nat)(p:Zao)(Bp:Nat)(M0 M:Nat->Prop)(W0 W:World):Prop where
 low:Below n₀ w0 W
 box:W.cell? ⟨Bp,0,none⟩=some (.pointer (some ⟨pb,0,none⟩))
 wr:Wr (fun k=>n₀<=k) W0 W
 sub:∀ k,M k->M0 k\/W0.heap.size<=k
 nb:¬ M Bp
theorem ItS.go {n₀:Nat}{o:Own}{w0:World}{pb:Nat}{p:Zao}{Bp:Nat}{M0 M M':Nat->Prop}{W0 W W':World}(h:ItS n₀ o w0 pb p Bp M0 M W0 W)(hn:n₀<=W0.heap.size)(hge:∀ k,M k->n₀<=k)(hw:Wr M W W')
 (hM:∀ k,M' k->M k\/W.heap.size<=k):ItS n₀ o w0 pb p Bp M0 M' W0 W':=by
 have hs:=h.wr.size;have hb:=Zaa h.box;refine⟨h.low.trans (hw.below hge (by omega)),?_,h.wr.trans hw (fun _ _ h=>h) (fun k _ hk=>hge k hk),fun k hk=>?_,fun e=>?_⟩
 . exact(World.cell?_of_block (w:=W) (a:=⟨Bp,0,none⟩) (hw.keep Bp hb h.nb)).trans h.box
 .
  rcases hM k hk with h1|h1
  . exact h.sub k h1
  . right;omega
 .
  rcases hM Bp e with h1|h1
  . exact h.nb h1
  . have g0:Bp<W.heap.size:=hb;omega
theorem Ztd (F:Fence)(n:Nat)(hF:F.fn 252)(hro:F.round=none)(hn:1<=n)(Bp n₀ pb:Nat){o:Own}{w0:World}{p:Zao}(hp:Zat o w0 pb p)(hlt:Zal o w0)(h0:w0.heap.size<=n₀)(w:World)
 (hw:Below n₀ w0 w) (hn0:n₀<=w.heap.size) (hBp:w.cell? ⟨Bp,0,none⟩=some (.pointer (some ⟨pb,0,none⟩))) :
 Gives F n 0 prog 252 #[.pointer (some ⟨Bp,0,none⟩)] (fun i:Nat=>#[.int .i64 i]) n₀ (· = Bp) (Zdy p) w:=by
 intro l J M W g9 gg g1 gd hY hJ;have g8:=Zaa hBp;have g2:ItS n₀ o w0 pb p Bp M M W W:=⟨hw.trans (g1.below (fun k h=>h.1) hn0),(World.cell?_of_block (w:=w) (a:=⟨Bp,0,none⟩) (g1.keep Bp g8 (fun h=>h.2 rfl))).trans hBp,Wr.refl _ _,fun k h=>.inl h,gd Bp rfl⟩;have ge:n₀<=W.heap.size:=Nat.le_trans hn0 g1.size;have HP:∀ W',Below n₀ w0 W'->Zat o W' pb p:=fun W' hb=>hp.below (hb.mono h0) hlt
 obtain⟨vs,vt,vf,c0,c1,c2,c3,c4,hs,ht,_⟩:=(HP W g2.low).cells;have gf:=g2.box;have g3:=hp.pos;obtain⟨gs,cs,rfl,_⟩:=hs.shape g3;have g4:=hp.len;have gq:=hp.top;have gp:=hp.room;have gj:=Hd HP;have gh:=Hd hY;have gi:=Hd g2;have gk:=Hd g9;clear HP hY hs ht hp hlt h0 g2 g9 gg g1 gd hw hn0 hBp g8;refine callsIn_of_wp func252 rfl hF ?_ hro;simp only[ntmps252,List.size_toArray,List.length_cons,List.length_nil,Nat.reduceAdd,Nat.reduceSub,Array.replicate_succ,Array.replicate_zero,List.push_toArray,List.append_toArray,List.nil_append,List.cons_append]
 gi_wp2
 gi_loopw [11] (fun i wr=>∃ (k:Nat) (M1:Nat->Prop),k<=p.at_.length/\i=.int .i64 k/\J (Zeh p k) M1 wr/\ItS n₀ o w0 pb p Bp M M1 W wr) (fun i _=>p.at_.length-(intOf i).toNat)
 case atStart=>exact⟨0,M,Nat.zero_le _,rfl,hJ,gi.out⟩
 case round =>
  obtain⟨k,M1,hk,rfl,g0,hS⟩:=hrel
  by_cases hlt:k<p.at_.length
  .
   obtain⟨vs,vt,vf,d0,d1,d2,d3,d4,hs,ht,_⟩:=(gj.out wr hS.low).cells;have gf:=hS.box;obtain⟨gt,ct,rfl,_⟩:=ht.shape (by rw[g4];exact g3);have g7:=Zat.flag ht (k:=k) (by omega);rw[g4] at d2;have gr:(k:Int)<p.at_.length:=by omega
   have HS:=Hd hS;cases hB:p.tk k with
   | false =>
     rw[hB] at g7;have g5:Hid (J (Zeh p (k+1)) M1 wr):=by show J _ _ _;rw[Zqn hB];exact g0
     clear hB hs ht hS g0 hJ
     gi_wp2
     refine⟨fun _ h=>(by cases h),?_⟩
     gi_wp2
     go_roundw
     case rel=>exact⟨k+1,M1,by omega,by simp,g5.out,HS.out⟩
     case measure=>simp[intOf];omega
   | true =>
     rw[hB] at g7;have gn:=Hd (fun q (hq:M1 q)=>(gk.out _ _ _ g0 q hq).1);obtain⟨fn,tmps,assign,body,hy,hR⟩:=gh.out _ k M1 wr g0 (Zui hB hlt);have HU:=Hd (Zjf hB);have HR:=Hd hR;clear hs ht hS g0 hR hB hJ
     gi_wp2
     refine HR.out.mono ?_;rintro e W3 ⟨rfl,M3,gc,g6,ga⟩;have gm:=Hd gc;have gl:=Hd (HS.out.go ge gn.out g6 ga);clear gc g6 ga
     gi_wp2
     go_roundw
     case rel=>exact⟨k+1,M3,by omega,by simp,by rw[HU.out];exact gm.out,gl.out⟩
     case measure=>simp[intOf];omega
  .
   obtain rfl:k=p.at_.length:=by omega
   have g5:=Hd g0;have HS:=Hd hS;clear g0 hS hJ
   gi_wp2
   go_end0;exact⟨⟨_,rfl⟩,M1,g5.out,HS.out.wr,HS.out.sub⟩
theorem Ybi (F:Fence)(n:Nat)(hF:F.fn 245)(hro:F.round=none)(pb:Nat)(w:World) :
 CallsIn F n prog 245 #[.pointer (some ⟨pb,0,none⟩)] w fun e w'=>e=.returned (.func (.func 252) #[] #[.pointer (some ⟨w.heap.size,0,none⟩)])/\w'=w.alloc (.cells #[.pointer (some ⟨pb,0,none⟩)] 190):=by
 refine callsIn_of_wp func245 rfl hF ?_ hro;simp only[ntmps245,List.size_toArray,List.length_cons,List.length_nil,Nat.reduceAdd,Nat.reduceSub,Array.replicate_succ,Array.replicate_zero,List.push_toArray,List.append_toArray,List.nil_append,List.cons_append]
 gi_wp2
 go_ret;exact⟨rfl,rfl⟩
theorem Yaa (F:Fence)(n:Nat)(hF:F.fn 234)(hro:F.round=none)(pb:Nat)(w:World) :
 CallsIn F n prog 234 #[.pointer (some ⟨pb,0,none⟩)] w fun e w'=>e=.returned (.func (.func 244) #[] #[.pointer (some ⟨w.heap.size,0,none⟩)])/\w'=w.alloc (.cells #[.pointer (some ⟨pb,0,none⟩)] 190):=by
 refine callsIn_of_wp func234 rfl hF ?_ hro;simp only[ntmps234,List.size_toArray,List.length_cons,List.length_nil,Nat.reduceAdd,Nat.reduceSub,Array.replicate_succ,Array.replicate_zero,List.push_toArray,List.append_toArray,List.nil_append,List.cons_append]
 gi_wp2
 go_ret;exact⟨rfl,rfl⟩
end Go.Proofs.YtkbegdkpboklpaaGreat

namespace Go.Proofs.YtkbegdkpboklpaaGreat
open Go.Proofs.Tryz
open Go.RowKit Go.Shelf
attribute [local go_sem] Oper.semAt_some
structure EaS (n₀:Nat)(o:Own)(w0:World)(pb:Nat)(p:Zao)(Bp By l:Nat)(M0 M:Nat->Prop)(W0 W:World):Prop where
 it:ItS n₀ o w0 pb p Bp M0 M W0 W
 boxy:W.cell? ⟨By,0,none⟩=some (.func (.yield l) #[] #[])
 ny:¬ M By
 ge:∀ k,M k->n₀<=k
theorem Zm5 {M:Nat->Prop}{W W':World}{b k:Nat}{v:Value}(h:Wr M W W')(hc:W.cell? ⟨b,k,none⟩=some v)(hn:¬ M b):W'.cell? ⟨b,k,none⟩=some v :=
 (World.cell?_of_block (w:=W) (a:=⟨b,k,none⟩) (h.keep b (Zaa hc) hn)).trans hc
theorem EaS.go {n₀:Nat}{o:Own}{w0:World}{pb:Nat}{p:Zao}{Bp By l:Nat}{M0 M M':Nat->Prop}{W0 W W':World}(h:EaS n₀ o w0 pb p Bp By l M0 M W0 W)(hn:n₀<=W0.heap.size)(hw:Wr M W W')
 (hM:∀ k,M' k->M k\/W.heap.size<=k):EaS n₀ o w0 pb p Bp By l M0 M' W0 W':=by
 have hs:=h.it.wr.size;have hb:By<W.heap.size:=Zaa h.boxy;refine⟨h.it.go hn h.ge hw hM,Zm5 hw h.boxy h.ny,fun e=>?_,fun k hk=>?_⟩
 .
  rcases hM By e with h1|h1
  . exact h.ny h1
  . omega
 .
  rcases hM k hk with h1|h1
  . exact h.ge k h1
  . omega
theorem Zq0 (F:Fence)(n:Nat)(hF1:F.fn 244)(hF2:F.fn 245)(hF3:F.fn 252)(hro:F.round=none)(hn:4<=n)(Bp n₀ pb:Nat){o:Own}{w0:World}{p:Zao}(hp:Zat o w0 pb p)(hlt:Zal o w0)(h0:w0.heap.size<=n₀)(w:World)
 (hw:Below n₀ w0 w) (hn0:n₀<=w.heap.size) (hBn:n₀<=Bp) (hBp:w.cell? ⟨Bp,0,none⟩=some (.pointer (some ⟨pb,0,none⟩))) :
 Gives F n 2 prog 244 #[.pointer (some ⟨Bp,0,none⟩)] (fun i:Nat=>#[Za6 (p.nd i)]) n₀ (· = Bp) (Zdy p) w:=by
 intro l J M W g6 g7 g3 gp hY hJ;have gx:Bp<w.heap.size:=Zaa hBp;have gT:Bp<W.heap.size:=Nat.lt_of_lt_of_le gx g3.size;have gd:n₀<=W.heap.size:=Nat.le_trans hn0 g3.size;have gh:W.cell? ⟨Bp,0,none⟩=some (.pointer (some ⟨pb,0,none⟩)):=Zm5 g3 hBp (fun h=>h.2 rfl);have gg:Below n₀ w0 W:=hw.trans (g3.below (fun k h=>h.1) hn0);obtain⟨V,hV⟩:∃ V,V=(W.alloc (.cells #[.func (.yield l) #[] #[]] 310)).alloc (.cells #[.pointer (some ⟨pb,0,none⟩)] 190):=⟨_,rfl⟩;have g4:∀ N,Wr N W V:=fun N=>by rw[hV];exact((Wr.refl N W).alloc _).alloc _
 have gk:J [] M V:=g7 _ _ _ _ hJ (g4 _);have g2:=g6 _ _ _ hJ;have g9:V.cell? ⟨W.heap.size,0,none⟩=some (.func (.yield l) #[] #[]):=by rw[hV];simp
 have gc:V.cell? ⟨W.heap.size+1,0,none⟩=some (.pointer (some ⟨pb,0,none⟩)):=by rw[hV];simp
 have gn:V.cell? ⟨Bp,0,none⟩=some (.pointer (some ⟨pb,0,none⟩)):=Zm5 (g4 (fun _=>False)) gh (fun h=>h);have g1:Below n₀ w0 V:=gg.trans ((g4 (fun k=>n₀<=k)).below (fun _ h=>h) gd);have gi:V.heap.size=W.heap.size+2:=by rw[hV];simp
 have gl:EaS n₀ o w0 pb p Bp W.heap.size l M M V V:=⟨⟨g1,gn,Wr.refl _ _,fun k h=>.inl h,gp Bp rfl⟩,g9,fun e=>by have:=(g2 _ e).2;omega,fun k h=>(g2 k h).1⟩;have HP:∀ W',Below n₀ w0 W'->Zat o W' pb p:=fun W' hb=>hp.below (hb.mono h0) hlt
 have HG:=Hd (Ztd F (n-1) hF3 hro (by omega) (W.heap.size+1) n₀ pb hp hlt h0 V g1 (by omega) gc);have gq:=Hd HP;have gB:=Hd hY;have gF:=Hd gl;have gD:=Hd g6;have gt:=Hd g2;have g8:=Hd g7;have gE:=Hd gk;have gC:=Hd g4;have gI:=hp.len;have gr:=hp.pos;have gH:=hp.top;have gG:=hp.room;have h1:1<=n:=by omega
 have gP:(W.alloc (.cells #[.func (.yield l) #[] #[]] 310)).cell? ⟨Bp,0,none⟩=some (.pointer (some ⟨pb,0,none⟩)):=Zm5 ((Wr.refl (fun _=>False) W).alloc _) gh (fun h=>h);refine callsIn_of_wp_marks func244 rfl hF1 ?_ hro;simp only[ntmps244,List.size_toArray,List.length_cons,List.length_nil,Nat.reduceAdd,Nat.reduceSub,Array.replicate_succ,Array.replicate_zero,List.push_toArray,List.append_toArray,List.nil_append,List.cons_append];clear g6 g7 g3 gp hY hJ gk g2 g9 gc gn g1 gl HP hp hlt h0 hw hBp gg g4 gi
 gi_wp2_with (gi_at_call 245;refine(Ybi F (n-1) hF2 hro _ _).mono ?_;rintro e w' ⟨rfl,rfl⟩)
 rw[<- hV];have gi:V.heap.size=W.heap.size+2:=by rw[hV];simp
 clear hV;have gL:prog.follows .mixedOrders=true:=by kernel_rfl
 refine Zss hro h1 (gf:=252) (lb:=#[.pointer (some ⟨W.heap.size+1,0,none⟩)]) rfl hF3 (enters_of func252 (by kernel_rfl) rfl) HG.out
  (by omega) (by rintro k rfl;omega) (fun x=>rfl)
  (fun pre N V'=>∃ M1,(∀ k,N k↔M1 k\/k=W.heap.size\/k=Bp)/\J pre M1 V'/\EaS n₀ o w0 pb p Bp W.heap.size l M M1 V V')
  ?_ ?_ (fun k=>M k\/k=W.heap.size\/k=Bp) ?_ ⟨M,fun k=>Iff.rfl,gE.out,gF.out⟩
  (fun x a' _ _=>a'={
   tmps :=
    #[Value.func (Fn.yield l) #[] #[],Value.pointer (some { block:=Bp,off:=0 }),
     Value.pointer (some { block:=W.heap.size,off:=0 }),Value.int IntKind.i64 ↑x,
     Value.pointer (some { block:=pb,off:=0 }),
     Value.func (Fn.func 252) #[] #[Value.pointer (some { block:=W.heap.size+1,off:=0 })],
     Value.int IntKind.i64 ↑x,undef,undef,undef,undef,undef,undef,undef,undef,undef,undef],
   defers:=[] }) ?_ ?_ ?_ ?_
 .
  rintro pre N V' ⟨M1,hN,hj,hE⟩ k hk;rcases(hN k).1 hk with h|h|h
  . exact gD.out _ _ _ hj k h
  . subst h;exact⟨gd,Zaa hE.boxy⟩
  . subst h;exact⟨hBn,Zaa hE.it.box⟩
 .
  rintro pre N V' V'' ⟨M1,hN,hj,hE⟩ hw
  have g5:∀ k,k<V'.heap.size->(k<n₀\/N k)->V''.heap[k]?=V'.heap[k]?:=fun k hk hn=>hw.keep k hk (fun⟨a,b⟩=>by
   rcases hn with h|h
   . omega
   . exact b h)
  refine⟨M1,hN,g8.out _ _ _ _ hj (hw.mono fun k ⟨a,b⟩=>⟨a,fun h=>b ((hN k).2 (.inl h))⟩),⟨⟨?_,?_,?_,hE.it.sub,hE.it.nb⟩,?_,hE.ny,hE.ge⟩⟩
  . exact hE.it.low.trans (hw.below (fun k h=>h.1) (by have:=hE.it.wr.size;omega))
  . exact(World.cell?_of_block (w:=V') (a:=⟨Bp,0,none⟩) (g5 _ (Zaa hE.it.box) (.inr ((hN _).2 (.inr (.inr rfl)))))).trans hE.it.box
  . exact hE.it.wr.trans hw (fun _ _ h=>h) (fun k _ h=>h.1)
  . exact(World.cell?_of_block (w:=V') (a:=⟨W.heap.size,0,none⟩) (g5 _ (Zaa hE.boxy) (.inr ((hN _).2 (.inr (.inl rfl)))))).trans hE.boxy
 .
  rintro k rfl h;have gR:W.heap.size+1<W.heap.size\/W.heap.size+1=W.heap.size\/W.heap.size+1=Bp:=by
   rcases h with h|h
   . left;exact(gt.out _ h).2
   . right;exact h
  omega
 . intro x a' W' W1 W2 l' _ h _;exact h
 .
  intro l' pre x N V' K hI hK
  gi_wp2
  exact hK _ _ (Wr.refl _ _) rfl
 .
  rintro l' pre x a' N W0 W1 ⟨M1,hN,hj,hE⟩ rfl gK hs1 g0;obtain⟨suf,g0⟩:=g0;have hx:p.tk x=true:=Zmp g0;obtain⟨vs,vt,vf,d0,d1,d2,d3,d4,hs,ht,_⟩:=(gq.out W1 hE.it.low).cells;have gO:=hE.it.box;have gN:=hE.boxy;obtain⟨gs,cs,rfl,gw⟩:=hs.shape gr;have gu:=((gq.out W1 hE.it.low).tk_lt hx).2;have gM:=Zat.node hs (k:=x) gu;have gJ:(x:Int)<p.at_.length:=by omega
  obtain⟨fn,tmps,assign,body,hy,hR⟩:=gB.out _ x M1 W1.drew (g8.out _ _ _ _ hj ((Wr.refl _ W1).drew)) ⟨suf,g0⟩;simp only[Za6] at hy;have HR:=Hd hR;have HE:=Hd hE;have HN:=Hd hN;clear hs hE hj hR hN g0 gw
  gi_wp2
  gi_region_with_o (refine⟨fun _=>by omega,HR.out.mono ?_⟩;rintro e W3 ⟨rfl,M3,gy,ga,gj⟩)
  all_goals gi_wp2
  all_goals exact⟨fun k=>M3 k\/k=W.heap.size\/k=Bp,⟨M3,fun k=>Iff.rfl,gy,HE.out.go (by omega) (Wr.trans ((Wr.refl M1 W1).drew) ga (fun _ _ h=>h) (fun _ _ h=>h)) gj⟩,
   Wr.trans ((Wr.refl M1 W1).drew) ga (fun k _ h=>.inl ((HN.out k).2 (.inl h))) (fun k _ h=>.inl ((HN.out k).2 (.inl h))),
   fun k hk=>by
    rcases hk with hk|hk
    .
     rcases gj k hk with h|h
     . exact .inl ((HN.out k).2 (.inl h))
     . right;have:W1.heap.size<=k:=h;omega
    . exact .inl ((HN.out k).2 (.inr hk))⟩
 .
  rintro D N W2 gS gA ⟨M1,hN,hj,hE⟩ gQ gv gz
  gi_wp2
  refine⟨by simp,.inl ⟨_,_,rfl,run_takeDeferred gz,?_⟩⟩;have gm:n₀<=D:=by omega
  refine⟨_,results_none rfl _ _ _,⟨_,rfl⟩,M1,?_,?_,?_⟩
  . exact g8.out _ _ _ _ hj ((Wr.refl _ _).putObj (.inl ⟨gm,fun h=>gA ((hN D).2 (.inl h))⟩) _)
  . exact((gC.out (fun k=>n₀<=k)).trans gv (fun _ _ h=>h) (fun _ _ h=>h)).putObj (.inl gm) _
  .
   intro k hk;rcases hE.it.sub k hk with h|h
   . exact .inl h
   . right;omega
open Go.RowKit
def Zcs (d:Zag):List Nat:=(Zdy d.pool).filter (fun i=>decide (Zaz d i=0))
theorem Zqm (p:Zao):(Zdy p).Nodup:=(List.nodup_range).filter _
theorem Zqz (d:Zag):(Zcs d).Nodup:=(Zqm d.pool).filter _
theorem Zk4 {d:Zag}{i:Nat}(h:i∈Zcs d):d.pool.tk i=true/\Zaz d i=0:=by
 unfold Zcs at h;rw[List.mem_filter] at h;exact⟨(List.mem_filter.1 h.1).2,by simpa using h.2⟩
theorem Zmj (f g:Nat->Bool):∀ k,((((List.range k).filter f).filter g).length:Int)=Zaw k (fun i=>if f i=true then (if g i=true then 1 else 0) else 0)
 | 0=>by simp[Zaw]
 | k+1=>by
   rw[List.range_succ,List.filter_append,List.filter_append,List.length_append];have ih:=Zmj f g k;rw[Int.natCast_add,ih];cases hf:f k<;>cases hg:g k<;>simp[Zaw,hf,hg,List.filter]
theorem Zow {d:Zag}{ext:Nat->Int}(h:Zci d ext):(Zcs d).length=d.dead:=by
 have h1:=h.dead;have h2:((Zcs d).length:Int)=Zaw d.pool.at_.length (dead1 (Zab d) (Zaz d)):=by
  unfold Zcs Zdy Zeh;rw[Zmj];refine Zbb _ fun i _=>?_
  unfold dead1 Zab Zao.get;cases ht:d.pool.tk i<;>simp
 unfold Zek at h1;omega
structure Zdz (d:Zag)(k:Nat)(d':Zag):Prop where
 vars:d'.vars=d.vars
 level:d'.level=d.level
 counts:d'.counts=d.counts
 dead:d'.dead=d.dead
 room:d'.pool.room=d.pool.room
 alen:d'.pool.at_.length=d.pool.at_.length
 keep:∀ i,i∉(Zcs d).take k->d'.pool.tk i=d.pool.tk i/\d'.pool.nd i=d.pool.nd i
 gone:∀ i,i∈(Zcs d).take k->d'.pool.tk i=false
 tab:∀ v,v<d.vars.length->∀ lo hi id,d'.tab v (lo,hi)=some id↔Zab d' id=some ⟨v,lo,hi⟩
 many:d'.pool.many+k=d.pool.many
theorem Zdz.start {d:Zag}(ht:∀ v,v<d.vars.length->∀ lo hi id,d.tab v (lo,hi)=some id↔Zab d id=some ⟨v,lo,hi⟩):Zdz d 0 d :=
 ⟨rfl,rfl,rfl,rfl,rfl,rfl,fun _ _=>⟨rfl,rfl⟩,fun i h=>by simp at h,ht,rfl⟩
def Zvg (d:Zag)(i:Nat)(b:BN):Zag:={ d with pool:=d.pool.give i,tab:=fun v=>if v=b.v then putF (d.tab v) (b.lo,b.hi) none else d.tab v }
theorem Zdz.at {d d':Zag}{k i:Nat}(h:Zdz d k d')(hi:(Zcs d)[k]?=some i):d'.pool.tk i=true/\d'.pool.nd i=d.pool.nd i:=by
 obtain⟨g0,e⟩:=List.getElem?_eq_some_iff.1 hi;have hm:i∈Zcs d:=e ▸ List.getElem_mem g0;have hn:i∉(Zcs d).take k:=by
  intro hh;rw[List.mem_take_iff_getElem] at hh;obtain⟨j,hj,e2⟩:=hh;have g1:=List.pairwise_iff_getElem.1 (Zqz d) j k (by omega) g0 (by omega);exact g1 (e2.trans e.symm)
 have:=h.keep i hn;exact⟨this.1.trans (Zk4 hm).1,this.2⟩
theorem Zdz.next {d d':Zag}{k i:Nat}(h:Zdz d k d')(hi:(Zcs d)[k]?=some i)(hl:d'.pool.taken.length=d'.pool.at_.length)(hat:i<d'.pool.at_.length)(hm:1<=d'.pool.many) :
 Zdz d (k+1) (Zvg d' i (bnOf (d'.pool.nd i))):=by
 obtain⟨g2,e⟩:=List.getElem?_eq_some_iff.1 hi;obtain⟨ht,g3⟩:=h.at hi;have e1:(Zcs d).take (k+1)=(Zcs d).take k++[i]:=by rw[List.take_succ_eq_append_getElem g2,e]
 have tk:∀ j,(d'.pool.give i).tk j=if j=i then false else d'.pool.tk j:=fun j=>Zln (by rw[hl];exact hat) j
 have nd:∀ j,(d'.pool.give i).nd j=if j=i then rn0 else d'.pool.nd j:=fun j=>Zir hat j
 have g0:Zab d' i=some (bnOf (d'.pool.nd i)):=by unfold Zab Zao.get;rw[if_pos ht];rfl
 have g1:∀ j,Zab (Zvg d' i (bnOf (d'.pool.nd i))) j=if j=i then none else Zab d' j:=fun j=>by
  unfold Zab
  show ((d'.pool.give i).get j).map bnOf=_
  rw[Zao.give_get (by rw[hl];exact hat) hat]
  by_cases e:j=i<;>simp[e]
 refine⟨h.vars,h.level,h.counts,h.dead,h.room,?_,fun j hj=>?_,fun j hj=>?_,fun v hv lo hY id=>?_,?_⟩
 .
  show (d'.pool.at_.set i rn0).length=_
  rw[List.length_set];exact h.alen
 .
  rw[e1] at hj;simp only[List.mem_append,List.mem_singleton,not_or] at hj
  show (d'.pool.give i).tk j=_/\(d'.pool.give i).nd j=_
  rw[tk,nd,if_neg hj.2,if_neg hj.2];exact h.keep j hj.1
 .
  rw[e1] at hj;simp only[List.mem_append,List.mem_singleton] at hj
  show (d'.pool.give i).tk j=_
  rw[tk]
  by_cases e2:j=i
  . rw[if_pos e2]
  . rw[if_neg e2];exact h.gone j (hj.resolve_right e2)
 .
  rw[g1];have h0:=h.tab v hv lo hY id
  show (if v=(bnOf (d'.pool.nd i)).v then putF (d'.tab v) ((bnOf (d'.pool.nd i)).lo,(bnOf (d'.pool.nd i)).hi) none else d'.tab v) (lo,hY)=some id↔_
  by_cases e2:id=i
  .
   subst e2;simp only[if_true];constructor
   .
    intro hh;exfalso
    by_cases e3:v=(bnOf (d'.pool.nd id)).v
    .
     rw[if_pos e3] at hh;unfold putF at hh
     by_cases e4:(lo,hY)=((bnOf (d'.pool.nd id)).lo,(bnOf (d'.pool.nd id)).hi)
     . rw[if_pos e4] at hh;cases hh
     . rw[if_neg e4,h0,g0] at hh;cases hh;exact e4 rfl
    . rw[if_neg e3,h0,g0] at hh;cases hh;exact e3 rfl
   . intro hh;cases hh
  .
   rw[if_neg e2,<- h0]
   by_cases e3:v=(bnOf (d'.pool.nd i)).v
   .
    rw[if_pos e3];unfold putF
    by_cases e4:(lo,hY)=((bnOf (d'.pool.nd i)).lo,(bnOf (d'.pool.nd i)).hi)
    .
     rw[if_pos e4];constructor
     . intro hh;cases hh
     . intro hh;exfalso;have q:=(h.tab v hv lo hY i).2 (by rw[g0];cases e4;rw[e3]);rw[hh] at q;cases q;exact e2 rfl
    . rw[if_neg e4]
   . rw[if_neg e3]
 .
  show d'.pool.many-1+(k+1)=_
  have:=h.many;omega
structure Zbi (d d':Zag):Prop where
 vars:d'.vars=d.vars
 level:d'.level=d.level
 counts:d'.counts=d.counts
 room:d'.pool.room=d.pool.room
 dead:d'.dead=0
 alen:d'.pool.at_.length=d.pool.at_.length
 nodes:∀ i,Zab d' i=if 0<Zaz d i then Zab d i else none
 ext:∀ i b,Zab d' i=some b->Za0 d' i=Za0 d i
 tab:∀ v,v<d.vars.length->∀ lo hi id,d'.tab v (lo,hi)=some id↔Zab d' id=some ⟨v,lo,hi⟩
 many:d'.pool.many+d.dead=d.pool.many
theorem Zdz.done {d d':Zag}{ext:Nat->Int}(h:Zdz d (Zcs d).length d')(hl:Zci d ext)(hat:∀ i,d.pool.tk i=true->i<d.pool.at_.length):Zbi d { d' with dead:=0 }:=by
 have hk:(Zcs d).take (Zcs d).length=Zcs d:=List.take_length;have g1:∀ i,d.pool.tk i=true->Zaz d i=0->i∈Zcs d:=fun i h1 h2=>by
  unfold Zcs Zdy Zeh;simp only[List.mem_filter,List.mem_range,decide_eq_true_eq];exact⟨⟨hat i h1,h1⟩,h2⟩
 refine⟨h.vars,h.level,h.counts,h.room,rfl,h.alen,fun i=>?_,fun i b hb=>?_,h.tab,by rw[<- Zow hl];exact h.many⟩
 .
  show (d'.pool.get i).map bnOf=if 0<Zaz d i then (d.pool.get i).map bnOf else none
  unfold Zao.get
  by_cases hc:i∈Zcs d
  . have h1:=h.gone i (by rw[hk];exact hc);have h2:=(Zk4 hc).2;simp[h1,h2]
  .
   obtain⟨h1,h2⟩:=h.keep i (by rw[hk];exact hc);rw[h1,h2]
   by_cases h3:0<Zaz d i
   . rw[if_pos h3]
   .
    rw[if_neg h3];cases ht:d.pool.tk i with
    | false=>rfl
    | true=>exact absurd (g1 i ht (by omega)) hc
 .
  have g0:(d'.pool.get i).map bnOf=some b:=hb;have ht:d'.pool.tk i=true:=by
   unfold Zao.get at g0;cases ht:d'.pool.tk i with
   | true=>rfl
   | false=>rw[ht] at g0;simp at g0
  have hc:i∉Zcs d:=fun hc=>by rw[h.gone i (by rw[hk];exact hc)] at ht;cases ht
  obtain⟨h1,h2⟩:=h.keep i (by rw[hk];exact hc)
  show (if d'.pool.tk i=true then ((d'.pool.nd i).refs:Int) else 0)=if d.pool.tk i=true then ((d.pool.nd i).refs:Int) else 0
  rw[h1,h2]
theorem Zj9 {d:Zag}{ext:Nat->Int}(hl:Zci d ext)(h0:d.dead=0){i:Nat}{b:BN}(hb:Zab d i=some b):0<Zaz d i:=by
 have h1:=hl.dead;rw[h0] at h1;have h2:=Zkg (f:=dead1 (Zab d) (Zaz d)) d.pool.at_.length (fun i _=>Zji _ _ i) (hl.cnt.lt i b hb);unfold Zek at h1;unfold dead1 at h2;rw[hb] at h2
 by_cases h:Zaz d i=0
 . simp only[h,if_true] at h2;unfold dead1 at h1;omega
 . omega
theorem Zbi.none {d:Zag}{V:Nat->BF}(hk:Zaq d V)(h0:d.dead=0):Zbi d d:=by
 refine⟨rfl,rfl,rfl,rfl,h0,rfl,fun i=>?_,fun _ _ _=>rfl,hk.tab,by omega⟩;cases hb:Zab d i with
 | none=>simp
 | some b=>rw[if_pos (Zj9 hk.live h0 hb)]
theorem Zo2 (d:Zag)(i:Nat):0<=Za0 d i:=by unfold Za0;split<;>omega
section
variable {d d':Zag}{V:Nat->BF}
theorem Zbi.sub (r:Zbi d d'){i:Nat}{b:BN}(h:Zab d' i=some b):Zab d i=some b/\0<Zaz d i:=by
 rw[r.nodes] at h;split at h
 . rename_i hc;exact⟨h,hc⟩
 . cases h
theorem Zbi.cnt (r:Zbi d d'):Zaz d'=Zaz d:=by funext i;unfold Zaz;rw[r.counts]
theorem Zbi.lev (r:Zbi d d'):levN d'=levN d:=by funext v;unfold levN;rw[r.level]
theorem Zbi.kid (r:Zbi d d')(hk:Zaq d V){i:Nat}{b:BN}(h:Zab d' i=some b){e:Nat}(he:e=b.lo\/e=b.hi):okE (Zab d') e:=by
 obtain⟨h1,h2⟩:=r.sub h;have ho:okE (Zab d) e:=by
  rcases he with rfl|rfl
  . exact hk.dag.okLo i b h1
  . exact hk.dag.okHi i b h1
 rcases ho with h0|⟨c,hc⟩
 . exact .inl h0
 . refine .inr ⟨c,?_⟩;rw[r.nodes,if_pos (hk.live.cnt.pos_of_live h1 h2 he hc (Zo2 d _))];exact hc
theorem Zbi.lvE (r:Zbi d d')(h0:Zab d 0=Option.none){n:Nat}{lev:Nat->Nat}{e:Nat}(he:okE (Zab d') e):Go.Proofs.YtkbegdkpboklpaaGreat.lvE n lev (Zab d') e=Go.Proofs.YtkbegdkpboklpaaGreat.lvE n lev (Zab d) e:=by
 unfold Go.Proofs.YtkbegdkpboklpaaGreat.lvE;rcases he with he|⟨b,hb⟩
 .
  have:Zab d' 0=Option.none:=by rw[r.nodes,h0];simp
  rw[he,h0,this]
 . rw[hb,(r.sub hb).1]
theorem Zbi.ok (r:Zbi d d')(hk:Zaq d V):Zaq d' V:=by
 have g0:∀ e,okE (Zab d') e->Go.Proofs.YtkbegdkpboklpaaGreat.lvE d.vars.length (levN d) (Zab d') e=Go.Proofs.YtkbegdkpboklpaaGreat.lvE d.vars.length (levN d) (Zab d) e:=fun e he=>r.lvE hk.dag.none0 he
 refine⟨?_,⟨?_,?_,fun i b hb=>by rw[r.counts];exact hk.live.has i b (r.sub hb).1⟩,by rw[r.vars];exact r.tab,by rw[r.counts];exact hk.clen,by rw[r.vars];exact hk.small,by rw[r.vars,r.lev];exact hk.inv,by rw[r.vars,r.lev];exact hk.vlt⟩
 . rw[r.vars,r.lev];exact hk.dag.restrict (Zab d') (fun i b h=>(r.sub h).1) (fun i b h=>⟨r.kid hk h (.inl rfl),r.kid hk h (.inr rfl)⟩)
 . rw[r.alen,r.cnt];exact(hk.live.cnt.collect (Zab d') r.nodes).congr (fun x b hb=>r.ext x b hb)
 .
  rw[r.dead];unfold Zek;rw[Zbb (g:=fun _=>0) _ (fun i _=>?_),Zdp]
  . rfl
  .
   unfold dead1;cases hb:Zab d' i with
   | none=>rfl
   | some b=>have:=(r.sub hb).2;rw[r.cnt];simp;omega
end
end Go.Proofs.YtkbegdkpboklpaaGreat

namespace Go.Proofs.YtkbegdkpboklpaaGreat
open Go.Proofs.Tryz
open Go.RowKit Go.Shelf
attribute [local go_sem] Oper.semAt_some
theorem Ze6 {F:Fence}{fu:Nat}(T e:TypeId)(size bytes:Nat)(z:Value)(hT:prog.underlying T=some (.slice e))(he:(prog.info? e).map (fun i=>(i.zero,i.size,i.bytes))=some (some z,size,bytes))(hzs:z.cells.size=size)(hsz:0<size)
 {wr:World} {ops:Array Oper} {rest:List Oper} {op:Oper} {a:Act} {Q:Exit->Act->World->Prop} {W:World} (hgd:op.guard=none) (s x:Operand)
 (hop:op.op=.call { callee:=.builtin .append,args:=#[s,x],argTypes:=#[T,T] })
 {o:Own} {r:Role} {v:Value} {n:Nat} {xs:List Value} (hs:a.eval s=v) {N:Nat} (hx:a.eval x=.slice (some ⟨N,0,none⟩) 1 1) {news:Array Value}
 (hW:W=wr.alloc (.cells news e)) (hN:N=wr.heap.size) (hl:news.size=size) (h1:∀ u∈news.toList,u.oneCell'=true) (h:RowR o wr r e size v n xs) (hlt:Zal o wr) (hn:n<1000000000) (hb:bytes<=10000)
 (hK:∀ g cap w' o',RowR o' w' r e size (.slice (some ⟨g,0,none⟩) (n+1) cap) (n+1) (xs++news.toList)->Chg (· = r) o o' wr w'->Zal o' w'->wpListIn F fu prog ops Q rest (a.put op.dst (.slice (some ⟨g,0,none⟩) (n+1) cap)) w'):wpListIn F fu prog ops Q (op::rest) a W:=by
 subst hN;subst hW
 obtain⟨g,cap,w',o',hr,h2,h3,h4⟩:=Zje T e op.type size bytes z hT he hzs hsz news hl h1 h hlt hn hb;refine wpListIn_plain hgd fun K g1=>?_
 unfold Oper.wpIn;refine⟨?_,?_⟩
 . simp[Oper.about,hop,resolve,Target.leads,Sem.run_pure]
 . rw[Oper.semAt_plain F _ _ (by rw[hop];intro c g0;cases g0)];simp only[execOp,hop,resolve,invoke,builtin,Sem.run_bind,Sem.run_pure,Result.andThen_ok,List.map_toArray,List.map_cons,List.map_nil,hs,hx,hr];exact g1 _ _ (hK g cap w' o' h2 h3 h4)
theorem Zhf (w:World)(o:Obj):(w.alloc o).drew=w.drew.alloc o:=rfl
theorem Zqo {F:Fence}{n:Nat}{P:Program}{c:Code}{Q:Exit->Act->World->Prop}{a:Act}{w:World}(W1:World)(h:∃ A,c.wpIn F n P (fun e a' W'=>e=.normal/\a'=A/\W'=W1) a w/\Q .normal A W1):c.wpIn F n P Q a w:=by
 obtain⟨A,h1,h2⟩:=h;refine wpIn_mono h1 ?_;rintro _ _ _ ⟨rfl,rfl,rfl⟩;exact h2
def Zf8 (d:Zag)(pre:List Nat):List Nat:=pre.filter (fun i=>decide (Zaz d i=0))
structure GatS (d:Zag)(w:World)(sb:Nat)(pre:List Nat)(M:Nat->Prop)(W:World)(v:Value)(oG:Own):Prop where
 mm:∀ k,M k↔(k=w.heap.size\/k=w.heap.size+1\/oG k=some .slots)
 low:Below w.heap.size w W
 boxs:W.heap[w.heap.size]?=some (.cells #[.pointer (some ⟨sb,0,none⟩)] 129 (0,0))
 boxg:W.heap[w.heap.size+1]?=some (.cells #[v] 262 (0,0))
 row:RowR oG W .slots 254 5 v (Zf8 d pre).length ((Zf8 d pre).flatMap fun i=>rnV (d.pool.nd i))
 lt:Zal oG W
 ge:∀ k r,oG k=some r->r=.slots/\w.heap.size+2<=k
def Gat (d:Zag)(w:World)(sb:Nat)(pre:List Nat)(M:Nat->Prop)(W:World):Prop:=∃ v oG,GatS d w sb pre M W v oG
theorem GatS.minds {d:Zag}{w:World}{sb:Nat}{pre:List Nat}{M:Nat->Prop}{W W':World}{v:Value}{oG:Own}(h:GatS d w sb pre M W v oG)(hw:Wr (fun k=>w.heap.size<=k/\¬ M k) W W'):GatS d w sb pre M W' v oG:=by
 have hk:∀ k,k<W.heap.size->M k->W'.heap[k]?=W.heap[k]?:=fun k h1 h2=>hw.keep k h1 (fun e=>e.2 h2)
 have hm:=h.mm
 refine⟨hm,h.low.trans (hw.below (fun k h=>h.1) h.low.size),(hk _ (Array.getElem?_eq_some_iff.1 h.boxs).1 ((hm _).2 (.inl rfl))).trans h.boxs,(hk _ (Array.getElem?_eq_some_iff.1 h.boxg).1 ((hm _).2 (.inr (.inl rfl)))).trans h.boxg,
  h.row.keep (fun g hg=>hk g (h.lt g _ hg) ((hm g).2 (.inr (.inr hg)))) (fun _ h=>h),h.lt.mono hw.size,h.ge⟩
theorem Zvm {d:Zag}{pre:List Nat}{x:Nat}(h:Zaz d x=0):Zf8 d (pre++[x])=Zf8 d pre++[x]:=by unfold Zf8;rw[List.filter_append];simp[h]
theorem Zx1 {d:Zag}{pre:List Nat}{x:Nat}(h:Zaz d x≠0):Zf8 d (pre++[x])=Zf8 d pre:=by unfold Zf8;rw[List.filter_append];simp[h]
theorem GatS.add {d:Zag}{w:World}{sb:Nat}{pre:List Nat}{M:Nat->Prop}{W W1:World}{v v':Value}{oG oG':Own}{x:Nat}(h:GatS d w sb pre M W v oG)(hc:Zaz d x=0)
 (hr:RowR oG' W1 .slots 254 5 v' ((Zf8 d pre).length+1) (((Zf8 d pre).flatMap fun i=>rnV (d.pool.nd i))++rnV (d.pool.nd x))) (hg:Chg (· = .slots) oG oG' W W1) (hl:Zal oG' W1) {n:Nat} (hn:n<=W.heap.size) :
 ∃ M',Gat d w sb (pre++[x]) M' (W1.setCell ⟨w.heap.size+1,0,none⟩ v')/\Wr (fun k=>M k\/n<=k) W (W1.setCell ⟨w.heap.size+1,0,none⟩ v')/\∀ k,M' k->M k\/n<=k:=by
 have none:∀ k,k<w.heap.size+2->oG k=Option.none:=fun k hk=>by
  cases e:oG k with
  | none=>rfl
  | some r=>have:=(h.ge k r e).2;omega
 have g0:w.heap.size+1<W.heap.size:=(Array.getElem?_eq_some_iff.1 h.boxg).1;have k0:=(hg.alien (by omega) (none w.heap.size (by omega))).trans h.boxs;have k1:=(hg.alien g0 (none (w.heap.size+1) (by omega))).trans h.boxg;have ge':∀ k r,oG' k=some r->r=.slots/\w.heap.size+2<=k:=fun k r hk=>by
  by_cases e:oG' k=oG k
  . rw[e] at hk;exact h.ge k r hk
  .
   obtain⟨a1,q,a2,a3⟩:=hg.new k e;rw[hk] at a2;cases a2
   exact⟨a3,by omega⟩
 refine⟨fun k=>k=w.heap.size\/k=w.heap.size+1\/oG' k=some .slots,⟨v',oG',⟨fun k=>Iff.rfl,?_,?_,Zah k1 _,?_,hl.mono (by simp[World.setCell]),ge'⟩⟩,?_,fun k hk=>?_⟩
 . have:Below w.heap.size w W1:=h.low.trans ⟨hg.os,hg.tape,hg.output,hg.size,fun k hk=>hg.alien (Nat.lt_of_lt_of_le hk h.low.size) (none k (by omega))⟩;exact this.setCell (p:=⟨w.heap.size+1,0,Option.none⟩) (by show _<=w.heap.size+1;omega) _
 . exact(Zai (by show _≠w.heap.size+1;omega) _).trans k0
 . rw[Zvm hc,List.length_append,List.flatMap_append];simp only[List.length_singleton,List.flatMap_cons,List.flatMap_nil,List.append_nil];exact hr.setCell_other (fun e=>by have:=(ge' _ _ e).2;simp at this) _
 . have:Wr (fun k=>M k\/n<=k) W W1:=⟨hg.os,hg.tape,hg.output,hg.size,fun k hk hm=>hg.block k hk fun r hr e=>hm (.inl ((h.mm k).2 (.inr (.inr (by rw[hr,e])))))⟩;exact this.setCell (p:=⟨w.heap.size+1,0,Option.none⟩) (.inl (.inl ((h.mm _).2 (.inr (.inl rfl))))) _
 .
  rcases hk with hk|hk|hk
  . exact .inl ((h.mm k).2 (.inl hk))
  . exact .inl ((h.mm k).2 (.inr (.inl hk)))
  .
   by_cases e:oG' k=oG k
   . rw[e] at hk;exact .inl ((h.mm k).2 (.inr (.inr hk)))
   . have:=(hg.new k e).1;right;omega
theorem GatS.no {d:Zag}{w:World}{sb:Nat}{pre:List Nat}{M:Nat->Prop}{W:World}{v:Value}{oG:Own}(h:GatS d w sb pre M W v oG)(k:Nat)(hk:k<w.heap.size+2):oG k=none:=by
 cases e:oG k with
 | none=>rfl
 | some r=>have:=(h.ge k r e).2;omega
theorem GatS.drew {d:Zag}{w:World}{sb:Nat}{pre:List Nat}{M:Nat->Prop}{W:World}{v:Value}{oG:Own}(h:GatS d w sb pre M W v oG):GatS d w sb pre M W.drew v oG:=h.minds ((Wr.refl _ W).drew)
def Zxl (o:Own)(W2:World)(sb:Nat)(d:Zag)(s:Za7)(k:Nat)(wr:World):Prop:=∃ o1 d1,Zap o1 wr sb d1 s/\Zal o1 wr/\Zdz d k d1/\Chg Zar o o1 W2 wr
theorem Zxl.next {o o1 o2:Own}{W2 wr w3 w4 w4' w5:World}{sb:Nat}{d d1:Zag}{s:Za7}{k i:Nat}{N:RN}(hs1:Zap o1 wr sb d1 s)(hl1:Zal o1 wr)(hr1:Zdz d k d1)(hc1:Chg Zar o o1 W2 wr)(hi:(Zcs d)[k]?=some i)(hN:d1.pool.nd i=N)(hb3:Below wr.heap.size wr w3)
 (ht:Zdk o1 w4 N.v (s.ts.getD N.v 0) (putF (d1.tab N.v) (N.lo,N.hi) none)) (hct:Chg (· = .tmap N.v) o1 o1 w3 w4) (hl4:Zal o1 w4) (hb:Below w4.heap.size w4 w4')
 (hp:Zat o2 w5 s.pb (d1.pool.give i)) (hcp:Chg (fun r=>r=.pool\/r=.slots\/r=.taken\/r=.free) o1 o2 w4' w5) (hl5:Zal o2 w5):Zxl o W2 sb d s (k+1) w5:=by
 have h3:=hs1.below hl1 hb3;have g1:=hl1.mono hb3.size;have h4:=h3.setTab g1 ht hct;have g2:=h4.below hl4 hb;have h5:=g2.setPool (hl4.mono hb.size) hp hcp;have g0:i<d1.pool.at_.length:=(hs1.pool.tk_lt (hr1.at hi).1).2;have e:(fun u=>if u=N.v then putF (d1.tab N.v) (N.lo,N.hi) none else d1.tab u)=(fun u=>if u=N.v then putF (d1.tab u) (N.lo,N.hi) none else d1.tab u):=by
  funext u
  by_cases h:u=N.v
  . subst h;rfl
  . simp[h]
 rw[e] at h5;refine⟨o2,Zvg d1 i (bnOf N),h5,hl5,?_,hc1.trans ((Chg.of_below hb3 _ o1).trans ((hct.mono ?_).trans ((Chg.of_below hb _ o1).trans (hcp.mono ?_))))⟩
 .
  have:=hr1.next hi hs1.pool.len g0 (by
   have h1:=hs1.pool.cnt;have h2:=Zqk (f:=fun j=>if d1.pool.tk j=true then (1:Int) else 0) (fun j _=>by split<;>omega) g0 (by simp[(hr1.at hi).1]);omega)
  rw[hN] at this;exact this
 . rintro r rfl;exact .inr (.inr (.inr (.inr (.inr (.inr (.inl ⟨_,.inr rfl⟩))))))
 . rintro r h;exact .inr (.inr (.inr (.inr (.inl h))))
theorem Zd8 {P:Program}{S:World->Prop}{Q:Exit->Act->World->Prop}{ops:Array Oper}{o:Oper}{a:Act}{w:World}{f:FuncId}{args:Array Value}{R:Value->World->Prop}(hg:o.guard=none)
 (he:(execOp a.eval o).run P w=.ok (.enter f args) w) (hc:Calls P f args w fun e w'=>∃ v,e=.returned v/\R v w') (h:∀ v w',R v w'->Q .normal (a.put o.dst v) w'):Zcd P ops Q S true [(some o,true)] a w:=by
 refine Zdg hg fun K hK=>?_
 unfold Oper.wp;simp only[he,Oper.upon];exact hc.mono fun e w' ⟨v,h1,h2⟩=>by subst h1;exact hK _ _ (h v w' h2)
theorem Zii {o:Own}{w:World}{sb:Nat}{d:Zag}(h:Zax o w sb d)(h0:d.dead=0) :
 Calls prog 212 #[.pointer (some ⟨sb,0,none⟩)] w fun x w'=>x=.returned (.int .i64 0)/\Below w.heap.size w w':=by
 obtain⟨s,h⟩:=h;obtain⟨c0,c1,c2,c3,c4,f0⟩:=cells5 h.blk;rw[h0] at c4;obtain⟨w1,g0⟩:∃ w1,w1=w.alloc (.cells #[.pointer (some ⟨sb,0,none⟩)] 129):=⟨_,rfl⟩;have g1:Below w.heap.size w w1:=by rw[g0];exact Zad w _
 have cB:w1.cell? ⟨w.heap.size,0,none⟩=some (.pointer (some ⟨sb,0,none⟩)):=by rw[g0];exact cell1 (heap_alloc_new w _)
 have c4':=(g1.cell (p:=⟨sb,4,none⟩) (Zaa c4)).trans c4;have HW:Hid (_=w1):=Hd g0.symm;have HB:=Hd g1;clear h c0 c1 c2 c3 c4 f0 g0 g1 h0;refine(callsIn_wide (n:=9)).1 ?_;refine callsIn_of_wp_marks func212 rfl trivial ?_;refine wpIn_wide.2 ?_;simp only[ntmps212,List.size_toArray,List.length_cons,List.length_nil,Nat.reduceAdd,Nat.reduceSub,Array.replicate_succ,Array.replicate_zero,List.push_toArray,List.append_toArray,List.nil_append,List.cons_append];go_upto_region 1 with fail;rw[HW.out];go_wp2_with fail;exact⟨_,results_tmp rfl _ _ _,rfl,HB.out⟩
theorem Zkr {o:Own}{w:World}{sb:Nat}{d:Zag}{V:Nat->BF}(h:Zax o w sb d)(hlt:Zal o w)(hk:Zaq d V)(h0:d.dead≠0) :
 Calls prog 212 #[.pointer (some ⟨sb,0,none⟩)] w fun x w'=>x=.returned (.int .i64 d.dead)/\∃ o' d',Zax o' w' sb d'/\Zal o' w'/\Zbi d d'/\Chg Zar o o' w w':=by
 obtain⟨s,h⟩:=h;obtain⟨c0,c1,c2,c3,c4,f0⟩:=cells5 h.blk;have ko:((d.dead:Int) == 0)=false:=by simpa using h0
 obtain⟨w1,go⟩:∃ w1,w1=w.alloc (.cells #[.pointer (some ⟨sb,0,none⟩)] 129):=⟨_,rfl⟩;have gM:Below w.heap.size w w1:=by rw[go];exact Zad w _
 have hB:w1.heap[w.heap.size]?=some (.cells #[.pointer (some ⟨sb,0,none⟩)] 129 (0,0)):=by rw[go];exact heap_alloc_new w _
 have hs1:w1.heap.size=w.heap.size+1:=by rw[go];simp
 obtain⟨w2,g6⟩:∃ w2,w2=w1.alloc (.cells #[.slice none 0 0] 262):=⟨_,rfl⟩;have gL:Below w.heap.size w w2:=by rw[g6];exact gM.alloc (by omega) _
 have gO:w2.heap[w.heap.size]?=some (.cells #[.pointer (some ⟨sb,0,none⟩)] 129 (0,0)):=by rw[g6];exact(Below.heap_alloc w1 _ _ (by omega)).trans hB
 have hp:w2.heap[w.heap.size+1]?=some (.cells #[.slice none 0 0] 262 (0,0)):=by rw[g6,<- hs1];exact heap_alloc_new w1 _
 have gG:w2.heap.size=w.heap.size+2:=by rw[g6];simp[hs1]
 have cB1:=cell1 hB;have cB2:=cell1 gO;have cS1:=(gM.cell (p:=⟨sb,4,none⟩) (Zaa c4)).trans c4;have cS2:=(gL.cell (p:=⟨sb,1,none⟩) (Zaa c1)).trans c1;have HW1:Hid (_=w1):=Hd go.symm;have hy:Hid (_=w2):=Hd g6.symm;have HB2:=Hd gL;have HH:=Hd h;have HE:=Hd (callsIn_wide.1 (Yaa Fence.wide 9 trivial rfl s.pb w2));clear h c0 c1 c2 c3 c4 f0 go g6 gM gL;refine(callsIn_wide (n:=9)).1 ?_;refine callsIn_of_wp_marks func212 rfl trivial ?_;refine wpIn_wide.2 ?_;simp only[ntmps212,List.size_toArray,List.length_cons,List.length_nil,Nat.reduceAdd,Nat.reduceSub,Array.replicate_succ,Array.replicate_zero,List.push_toArray,List.append_toArray,List.nil_append,List.cons_append];go_upto_region 1 with fail;rw[HW1.out];go_upto_region 4 with fail;rw[hy.out];go_wp2_with fail;refine HE.out.mono ?_;rintro x w3 ⟨rfl,gn⟩;go_wp2_with fail;obtain⟨w3',g4⟩:∃ w3',w3'=w2.alloc (.cells #[.pointer (some ⟨s.pb,0,none⟩)] 190):=⟨_,rfl⟩;rw[<- g4];have kk:w3'.heap.size=w.heap.size+3:=by rw[g4];simp[gG]
 have g5:Below w.heap.size w w3':=by rw[g4];exact HB2.out.alloc (by omega) _
 have hu:w3'.heap[w.heap.size]?=some (.cells #[.pointer (some ⟨sb,0,none⟩)] 129 (0,0)):=by rw[g4];exact(Below.heap_alloc w2 _ _ (by omega)).trans gO
 have ho:w3'.heap[w.heap.size+1]?=some (.cells #[.slice none 0 0] 262 (0,0)):=by rw[g4];exact(Below.heap_alloc w2 _ _ (by omega)).trans hp
 have hn:w3'.cell? ⟨w.heap.size+2,0,none⟩=some (.pointer (some ⟨s.pb,0,none⟩)):=by rw[g4,<- gG];exact cell1 (heap_alloc_new w2 _)
 have gi:Hid (Zap o w sb d s):=HH;have g7:=Hd hlt;have HK:=Hd hk;have HG:=Hd (Zq0 Fence.wide 8 trivial trivial trivial rfl (by omega) (w.heap.size+2) w.heap.size s.pb HH.out.pool hlt (Nat.le_refl _) w3' g5 (by omega) (by omega) hn);clear g4 hB gO hp cB1 cB2 cS1 cS2 HE HW1 hy hs1 gG hn;refine(wpIn_wide (n:=9)).1 ?_;refine Zss rfl (by omega) (gf:=244) (lb:=#[.pointer (some ⟨w.heap.size+2,0,none⟩)]) rfl trivial (enters_of func244 (by kernel_rfl) rfl) HG.out (by omega) (by rintro k rfl;omega) (fun x=>rfl)
  (Gat d w sb) ?_ ?_ (fun k=>k=w.heap.size\/k=w.heap.size+1) (by rintro k rfl h;omega) ⟨.slice none 0 0,fun _=>none,(⟨fun k=>by simp,g5,hu,ho,RowR.nil _ _ _ _ _,fun k r h=>(by cases h),fun k r h=>(by cases h)⟩:GatS d w sb [] _ w3' (.slice none 0 0) (fun _=>none))⟩
  (fun x a' W W1=>∃ Bn,W.heap.size<=Bn/\W1.heap[Bn]?=some (.cells #[.int .i64 (d.pool.nd x).id,.int .i64 (d.pool.nd x).v,.int .i64 (d.pool.nd x).lo,.int .i64 (d.pool.nd x).hi,.int .i64 (d.pool.nd x).refs] 254 (0,0))/\a'={ tmps:=#[Value.pointer (some { block:=sb,off:=0 }),Value.pointer (some { block:=w.heap.size,off:=0 }),Value.int IntKind.i64 0,Value.pointer (some { block:=w.heap.size+1,off:=0 }),Value.pointer (some { block:=Bn,off:=0 }),undef,undef,Value.pointer (some { block:=sb,off:=0 }),Value.bool false,Value.bool false,Value.pointer (some { block:=sb,off:=0 }),Value.pointer (some { block:=sb,off:=0 }),Value.pointer (some { block:=sb,off:=4 }),Value.int IntKind.i64 ↑d.dead,Value.bool false,Value.bool false,Value.pointer (some { block:=sb,off:=0 }),Value.pointer (some { block:=sb,off:=0 }),Value.pointer (some { block:=sb,off:=1 }),Value.pointer (some { block:=s.pb,off:=0 }),Value.func (Fn.func 244) #[] #[Value.pointer (some { block:=w.heap.size+2,off:=0 })],Za6 (d.pool.nd x),undef,undef,undef,undef,undef,undef,undef,undef,undef,undef,undef,undef,undef,undef,undef,undef,undef,undef,undef,undef,undef,undef,undef,undef,undef,undef,undef,undef,undef,undef,undef,undef,undef,undef,undef,undef,undef,undef,undef,undef,undef,undef,undef,undef,undef],defers:=[] }) ?_ ?_ ?_ ?_
 .
  rintro pre M W ⟨v,oG,hS⟩ k hk;rcases(hS.mm k).1 hk with rfl|rfl|hg
  . exact⟨Nat.le_refl _,(Array.getElem?_eq_some_iff.1 hS.boxs).1⟩
  . exact⟨by omega,(Array.getElem?_eq_some_iff.1 hS.boxg).1⟩
  . have:=(hS.ge k _ hg).2;exact⟨by omega,hS.lt k _ hg⟩
 . rintro pre M W W' ⟨v,oG,hS⟩ hw;exact⟨v,oG,hS.minds hw⟩
 . rintro x a' W W1 W2 l hl ⟨Bn,h1,h2,h3⟩ hw;exact⟨Bn,h1,(hw.keep Bn (Array.getElem?_eq_some_iff.1 h2).1 (by omega)).trans h2,h3⟩
 .
  intro l pre x M W K hI hK;simp only[Za6]
  gi_wp2
  exact hK _ _ ((Wr.refl _ W).alloc _) ⟨W.heap.size,Nat.le_refl _,heap_alloc_new W _,rfl⟩
 .
  rintro l pre x a' M W0 W ⟨v,oG,hS⟩ ⟨Bn,kp,hb,rfl⟩ hX hs1 g9;obtain⟨suf,g9⟩:=g9;have hx:d.pool.tk x=true:=Zmp g9;have gp:=gi.out.below g7.out hS.low;obtain⟨q0,q1,q2,q3,q4,_⟩:=cells5 gp.blk;obtain⟨n0,n1,n2,n3,n4,_⟩:=cells5 hb;have hid:=gp.pool.id x hx;rw[hid] at n0;have gh:Zab d x=some (bnOf (d.pool.nd x)):=by unfold Zab Zao.get;rw[if_pos hx];rfl
  have gD:x<d.counts.length:=HK.out.live.has x _ gh;obtain⟨gc,cc,gV,_⟩:=gp.counts.shape (by omega);have gm:=gp.counts;rw[gV] at gm q3;have h9:=gm.cell x (by simpa using gD);have gE:(d.counts.map nat64)[x]?=some (.int .i64 (Zaz d x:Nat)):=by
   rw[List.getElem?_map,List.getElem?_eq_getElem gD];simp[nat64,Zaz,List.getD,gD]
  rw[gE] at h9;have kh:(x:Int)<d.counts.length:=by omega
  have cb:=cell1 hS.boxs;have cg:=cell1 hS.boxg;have HS:=Hd hS;have kr:=Hd hb;have hJ:=Hd g9;have kc:=Hd hid;have kl:prog.follows .mixedOrders=true:=by kernel_rfl
  clear gp gm gE gV g9 hS hid gh
  by_cases hc:Zaz d x=0
  .
   rw[hc] at h9;have gl:(Zf8 d pre).length<1000000000:=by
    have h1:=gi.out.below g7.out HS.out.low;have h2:=h1.pool.top;have h3:=h1.pool.room;have h4:(Zf8 d pre).length<=(Zdy d.pool).length:=by rw[<- hJ.out];unfold Zf8;refine Nat.le_trans (List.length_filter_le _ _) ?_;simp
    have h5:(Zdy d.pool).length<=d.pool.at_.length:=by unfold Zdy Zeh;refine Nat.le_trans (List.length_filter_le _ _) ?_;simp
    omega
   have hQ:=Hd gl;have HC:=Hd hc;clear gl
   gi_wp2
   refine Zqo W.drew ?_;apply Exists.intro;refine⟨?_,?_⟩
   .
    gi_region_o
    all_goals exact⟨rfl,rfl,rfl⟩
   gi_wp2_with (gi_at_builtin
                rw[Zhf];refine Ze6 (wr:=W.drew) 262 254 5 40 _ underlying262 Zj8 rfl (by decide) rfl _ _ rfl rfl rfl rfl rfl rfl (by simp[Value.oneCell']) HS.out.drew.row HS.out.drew.lt hQ.out (by decide) ?_;intro g1 k1 w1 o1 g2 g0 g3;have gv:=Hd g2;have g8:=Hd g0;have gj:=Hd g3;clear g2 g0 g3 q0 q1 q2 q3 q4 cb;have gy:=(g8.out.alien (Array.getElem?_eq_some_iff.1 HS.out.boxg).1 (HS.out.no _ (by omega))).trans HS.out.boxg;have cg1:=cell1 gy;have fz:∀ k,w1.frozen? ⟨w.heap.size+1,k,none⟩=false:=fun k=>by simp[World.frozen?,gy]
                clear cg gy)
   have hH:=HS.out.drew.add HC.out (W1:=w1) (v':=.slice (some ⟨g1,0,none⟩) ((Zf8 d pre).length+1) k1) (by
    have e:rnV (d.pool.nd x)=[.int .i64 (x:Nat),.int .i64 (d.pool.nd x).v,.int .i64 (d.pool.nd x).lo,.int .i64 (d.pool.nd x).hi,.int .i64 (d.pool.nd x).refs]:=by unfold rnV;rw[kc.out]
    rw[e];exact gv.out) g8.out gj.out hX
   obtain⟨M',a1,a2,a3⟩:=hH;exact⟨M',a1,Wr.trans ((Wr.refl (fun _=>False) W).drew) a2 (fun _ _ e=>e.elim) (fun _ _ e=>e),a3⟩
  .
   have g0:((Zaz d x:Int) == 0)=false:=by simpa using hc
   gi_wp2
   refine Zqo W.drew ?_;apply Exists.intro;refine⟨?_,?_⟩
   .
    gi_region_o
    all_goals exact⟨rfl,rfl,rfl⟩
   gi_wp2
   exact⟨M,⟨v,oG,by have:=HS.out.drew;exact⟨this.mm,this.low,this.boxs,this.boxg,by rw[Zx1 hc];exact this.row,this.lt,this.ge⟩⟩,(Wr.refl _ W).drew,fun k hk=>.inl hk⟩
 .
  rintro D M W2 hD k4 ⟨v,oG,hS⟩ _ g6 ht;have HS:=Hd hS;have hA:=Hd ht;have cg:=cell1 hS.boxg;obtain⟨ag,cpg,rfl,_⟩:=hS.row.slice;clear hS ht k4 g6 HG hu ho g5;go_wp2_with fail;have gr:∀ k i,(Zcs d)[k]?=some i->∃ g,ag=some ⟨g,0,none⟩/\o g=none/\∀ j u,(rnV (d.pool.nd i))[j]?=some u->W2.cell? ⟨g,k*5+j,none⟩=some u:=by
   intro k i hi;have km:k<(Zcs d).length:=(List.getElem?_eq_some_iff.1 hi).1;obtain⟨g,cp,he,gd,_⟩:=HS.out.row.shape (by show 0<(Zcs d).length;omega);cases he;refine⟨g,rfl,?_,fun j u hj=>?_⟩
   . have:=(HS.out.ge g _ gd).2;exact g7.out.none (by omega)
   .
    have h5:j<5:=by have:=(List.getElem?_eq_some_iff.1 hj).1;simpa [rnV] using this
    have hf:=Zf6 (fun i=>rnV (d.pool.nd i)) 5 (fun _=>rfl) (Zcs d) k j i hi h5;have gl:((Zcs d).flatMap fun i=>rnV (d.pool.nd i)).length=(Zcs d).length*5:=Zbk _ 5 (fun _=>rfl) _;have hc:=HS.out.row.cell (k*5+j) (by show _<((Zcs d).flatMap fun i=>rnV (d.pool.nd i)).length;rw[gl];omega);rw[hc];exact hf.trans hj
  have kd:=Hd gr;have gP:Hid ((Zf8 d (Zdy d.pool)).length=(Zcs d).length):=Hd rfl;have gw:Hid (o w.heap.size=none/\o (w.heap.size+1)=none):=Hd ⟨g7.out.none (by omega),g7.out.none (by omega)⟩;have gk:=gi.out.below g7.out HS.out.low;have gH:Zal o W2:=g7.out.mono HS.out.low.size;have hM:=Hd gk;have hP:=Hd gH;have gI:w.heap.size<W2.heap.size:=(Array.getElem?_eq_some_iff.1 HS.out.boxs).1;have gY:w.heap.size+1<W2.heap.size:=(Array.getElem?_eq_some_iff.1 HS.out.boxg).1;have hG:(Zf8 d (Zdy d.pool)).length<=1048577:=by
   show (Zcs d).length<=_
   have h2:=gk.pool.top;have h3:=gk.pool.room;have h5:(Zcs d).length<=d.pool.at_.length:=by unfold Zcs Zdy Zeh;refine Nat.le_trans (List.length_filter_le _ _) (Nat.le_trans (List.length_filter_le _ _) ?_);simp
   omega
  clear gr cg gk gH;obtain⟨m,hm⟩:∃ m,m=(Zf8 d (Zdy d.pool)).length:=⟨_,rfl⟩;rw[<- hm] at hG gP ⊢;have HM:=Hd hm;clear hm
  go_loopw [37] (fun i wr=>∃ k:Nat,k<=m/\i=.int .i64 k/\Zxl o W2 sb d s k wr) (fun i _=>m-(intOf i).toNat)
  case atStart=>exact⟨0,Nat.zero_le _,rfl,o,d,hM.out,hP.out,Zdz.start HK.out.tab,Chg.refl _ _ _⟩
  case round =>
   obtain⟨k,hk,rfl,h8⟩:=hrel;have gJ:=h8;obtain⟨o1,d1,hs1,g3,g2,g0⟩:=h8
   by_cases kg:k<m
   .
    obtain⟨i,hi⟩:∃ i,(Zcs d)[k]?=some i:=⟨_,List.getElem?_eq_getElem (by have:=gP.out;omega)⟩;obtain⟨gz,gq⟩:=g2.at hi;obtain⟨g,k0,gd,gg⟩:=kd.out k i hi;subst k0;obtain⟨N,hN⟩:∃ N,N=d.pool.nd i:=⟨_,rfl⟩;rw[<- hN] at gg gq;have e0:=g0.cell (gg 0 _ rfl) gd;have e1:=g0.cell (gg 1 _ rfl) gd;have e2:=g0.cell (gg 2 _ rfl) gd;have e3:=g0.cell (gg 3 _ rfl) gd;have e4:=g0.cell (gg 4 _ rfl) gd;rw[Nat.add_zero] at e0;have cb:=cell1 ((g0.alien gI gw.out.1).trans HS.out.boxs);have kn:(k:Int)<m:=by omega
    obtain⟨w3,gn⟩:∃ w3,w3=wr.alloc (.cells #[.int .i64 N.id,.int .i64 N.v,.int .i64 N.lo,.int .i64 N.hi,.int .i64 N.refs] 254):=⟨_,rfl⟩;obtain⟨b6,gK⟩:∃ b6,b6=wr.heap.size:=⟨_,rfl⟩;have g5:Below wr.heap.size wr w3:=by rw[gn];exact Zad _ _
    have gh:w3.heap[b6]?=some (.cells #[.int .i64 N.id,.int .i64 N.v,.int .i64 N.lo,.int .i64 N.hi,.int .i64 N.refs] 254 (0,0)):=by rw[gn,gK];exact heap_alloc_new _ _
    have hE:o1 b6=none:=g3.none (by omega);have hO:Hid (o1 w.heap.size=none):=Hd (g0.alien' gI gw.out.1);have k6:Hid (_=w3):=Hd gn.symm;have kf:Hid (_=b6):=Hd gK.symm;have HN:=Hd hN;have hid:N.id=i:=by rw[<- gq];exact hs1.pool.id i gz
    have hd:Zab d1 i=some ⟨N.v,N.lo,N.hi⟩:=by unfold Zab Zao.get;rw[if_pos gz,gq];rfl
    have hv:N.v<d1.vars.length:=by rw[g2.vars];exact HK.out.dag.var i ⟨N.v,N.lo,N.hi⟩ (by unfold Zab Zao.get;rw[if_pos (Zk4 ((List.getElem?_eq_some_iff.1 hi).2 ▸ List.getElem_mem _)).1,<- hN];rfl)
    have h7:d1.tab N.v (N.lo,N.hi)=some i:=(g2.tab N.v (by rw[<- g2.vars];exact hv) _ _ _).2 hd;have ga:=hs1.below g3 g5;have gB:=g3.mono g5.size;obtain⟨gt,ct,gT,hZ,gU,ki⟩:=ga.tabAt hv;obtain⟨q0,q1,q2,q3,q4,_⟩:=cells5 ga.blk;rw[gT] at q2;obtain⟨n0,n1,n2,n3,n4,_⟩:=cells5 gh;have cb3:=(g5.cell (p:=⟨w.heap.size,0,none⟩) (Zaa cb)).trans cb;have hU:(N.v:Int)<s.ts.length:=by omega
    have hT:=Hd (Zvd o1 N.v (s.ts.getD N.v 0) (d1.tab N.v) N.lo N.hi i w3.drew ((ga.below gB (Zaf w3 1)).tab N.v gU) (gB.mono (Zaf w3 1).size) h7);have gC:=Hd hs1;have gj:=Hd g3;have gv:=Hd g2;have g8:=Hd g0;have HI:=Hd hi;have ka:=Hd gq;have hC:=Hd g5;have kq:=Hd gh;have k7:=Hd gz;have hR:=Hd hid;have hL:=Hd ga;have hz:=Hd gB;clear gg gJ hs1 g3 g2 g0 hi gq g5 gh gz hid hd hv h7 ga gB gT gn gK hN gU;go_upto_region 11 with fail;rw[k6.out,kf.out];refine Zam (fun W:World=>W=w3.drew) true 12 [(0,false),(1,false),(2,false),(3,false),(4,false),(5,false),(6,false),(7,false),(8,false),(9,false),(10,false),(11,false),(12,true)] (by kernel_rfl) (by kernel_rfl) rfl ?_;simp only[planned,Zcc]
    iterate 12
     refine Zaj rfl ?_;apply Exists.intro;refine⟨fun w' hw=>?_,?_⟩
     . subst hw;go_simp;rfl
     simp only[Zae]
    refine Zd8 rfl (by go_simp) (hT.out.mono (R':=fun e w'=>∃ v,e=.returned v/\(v=.int .i64 0/\Zdk o1 w' N.v (s.ts.getD N.v 0) (putF (d1.tab N.v) (N.lo,N.hi) none)/\Chg (· = .tmap N.v) o1 o1 w3.drew w'/\Zal o1 w')) (fun e w' h=>⟨_,h.1,rfl,h.2⟩)) ?_;rintro _ w4 ⟨rfl,gF,gu,gA⟩;simp only[Zae];refine Zbz ?_;have gx:=(hL.out.below hz.out (Zaf w3 1)).setTab (hz.out.mono (Zaf w3 1).size) gF gu;have cb4:=gu.cell (w:=w3.drew) (p:=⟨w.heap.size,0,none⟩) cb3 (hO.out);have n0':=gu.cell (w:=w3.drew) (p:=⟨b6,0,none⟩) n0 hE;obtain⟨p0,p1,p2,p3,p4,_⟩:=cells5 gx.blk;rw[hR.out] at n0';have gS:=Hd (Zp1 o1 s.pb d1.pool i w4.drew (gx.below gA (Zaf w4 1)).pool (gA.mono (Zaf w4 1).size) k7.out);have k8:=Hd gF;have ke:=Hd gu;have kb:=Hd gA;clear gF gu gA gx n0 n1 n2 n3 n4 q0 q1 q2 q3 q4 cb3 cb e0 e1 e2 e3 e4 hZ hU;go_upto_region 12 with fail;refine Zam (fun W:World=>W=w4.drew) true 6 [(0,false),(1,false),(2,false),(3,false),(4,false),(5,false),(6,true)] (by kernel_rfl) (by kernel_rfl) rfl ?_;simp only[planned,Zcc]
    iterate 6
     refine Zaj rfl ?_;apply Exists.intro;refine⟨fun w' hw=>?_,?_⟩
     . subst hw;go_simp;rfl
     simp only[Zae]
    refine Zd8 rfl (by go_simp) (gS.out.mono (R':=fun e w'=>∃ v,e=.returned v/\(v=.int .i64 0/\∃ o',Zat o' w' s.pb (d1.pool.give i)/\Chg (fun r=>r=.pool\/r=.slots\/r=.taken\/r=.free) o1 o' w4.drew w'/\Zal o' w')) (fun e w' h=>⟨_,h.1,rfl,h.2⟩)) ?_;rintro _ w5 ⟨rfl,o2,gX,ha,gZ⟩;simp only[Zae];refine Zbz ?_;have k9:=Hd (Zxl.next gC.out gj.out gv.out g8.out HI.out ka.out (hC.out.trans ((Zaf w3 1).mono hC.out.size)) k8.out ke.out kb.out (Zaf w4 1) gX ha gZ);clear gX ha gZ p0 p1 p2 p3 p4 cb4 n0' gY;go_wp2_with fail;go_roundw
    case rel=>exact⟨k+1,by omega,by go_num,k9.out⟩
    case measure=>simp[intOf];omega
   .
    obtain rfl:k=m:=by omega
    have hh:=(g0.alien gI gw.out.1).trans HS.out.boxs;have h6:=(g0.alien gY gw.out.2).trans HS.out.boxg;have cb:=cell1 hh;have cg:=cell1 h6;obtain⟨q0,q1,q2,q3,q4,qf⟩:=cells5 hs1.blk;have gC:=Hd hs1;have gj:=Hd g3;have gv:=Hd g2;have g8:=Hd g0;have kj:sb≠w.heap.size+1:=fun e=>by have h1:=gw.out.2;have h2:=gi.out.own;rw[e] at h2;rw[h1] at h2;cases h2
    clear gJ hs1 g3 g2 g0 hh h6;go_wp2_with fail;have gN:o D=none:=g7.out.none (by omega);have hq:D<W2.heap.size:=(Array.getElem?_eq_some_iff.1 hA.out).1;have k3:=(g8.out.alien hq gN).trans hA.out;have k5:o1 D=none:=g8.out.alien' hq gN;have hW:D≠sb:=by rintro rfl;have:=gi.out.own;rw[gN] at this;cases this
    have hY:k=(Zcs d).length:=gP.out;refine⟨by simp,.inl ⟨D,_,rfl,run_takeDeferred ((Zai hW _).trans k3),?_⟩⟩;have hF:Zap o1 (wr.setCell ⟨sb,4,none⟩ (.int .i64 0)) sb (d1.cd d1.counts 0) s:=gC.out.setDead gj.out 0;have gR:Zbi d (d1.cd d1.counts 0):=(hY ▸ gv.out:Zdz d (Zcs d).length d1).done HK.out.live (fun i hi=>(gi.out.pool.tk_lt hi).2);have gQ:Zax o1 ((wr.setCell ⟨sb,4,none⟩ (.int .i64 0)).putObj D (.deferred none)) sb (d1.cd d1.counts 0) :=
     Zax.keepR ⟨s,hF⟩ (fun g r hg _=>World.putObj_heap_other (by rintro rfl;rw[k5] at hg;cases hg)) (fun _ _ h=>h)
    refine⟨_,results_tmp rfl _ _ _,?_,o1,_,gQ,gj.out.mono (by simp[World.setCell]),gR,?_⟩
    .
     show Ending.returned (.int .i64 ((Zf8 d (Zdy d.pool)).length:Nat))=_
     have:(Zf8 d (Zdy d.pool)).length=d.dead:=Zow HK.out.live;rw[this]
    . have hc:=(Chg.of_below HS.out.low Zar o).trans (g8.out.setCell (p:=⟨sb,4,none⟩) (r:=.store) gC.out.own (.inl rfl) (.int .i64 0));exact⟨hc.os,hc.tape,hc.output,by have:=hc.size;simpa [World.setCell] using this,fun k hk hr=>(World.putObj_heap_other (by omega)).trans (hc.block k hk hr),hc.ext,hc.new⟩
open Go.RowKit
structure ChgX (C:Nat->Prop)(o o':Own)(w w':World):Prop where
 os:w'.os=w.os
 tape:w'.tape=w.tape
 output:w'.output=w.output
 size:w.heap.size<=w'.heap.size
 block:∀ k,k<w.heap.size->o k=none->¬ C k->w'.heap[k]?=w.heap[k]?
 ext:∀ k r,o k=some r->o' k=some r
 new:∀ k,o' k≠o k->w.heap.size<=k
abbrev NoB:Nat->Prop:=fun _=>False
section
variable {C D:Nat->Prop}{R:Role->Prop}{o o' o'':Own}{w w' w'':World}
theorem ChgX.of_chg (h:Chg R o o' w w')(C:Nat->Prop):ChgX C o o' w w':=⟨h.os,h.tape,h.output,h.size,fun _ hk ho _=>h.alien hk ho,h.ext,fun k hk=>(h.new k hk).1⟩
theorem ChgX.of_wr (h:Wr D w w')(o:Own)(hD:∀ k,k<w.heap.size->D k->C k):ChgX C o o w w':=⟨h.os,h.tape,h.output,h.size,fun k hk _ hc=>h.keep k hk (fun e=>hc (hD k hk e)),fun _ _ h=>h,fun _ h=>(h rfl).elim⟩
theorem ChgX.of_below (h:Below w.heap.size w w')(o:Own)(C:Nat->Prop):ChgX C o o w w':=ChgX.of_wr (Wr.of_below h NoB) o (fun _ _ h=>h.elim)
theorem ChgX.none' (h:ChgX C o o' w w'){k:Nat}(hk:k<w.heap.size)(ho:o k=none):o' k=none:=by
 by_cases e:o' k=o k
 . rw[e];exact ho
 . have:=h.new k e;omega
theorem ChgX.trans (h:ChgX C o o' w w')(h':ChgX D o' o'' w' w'')(hD:∀ k,k<w.heap.size->D k->C k):ChgX C o o'' w w'':=by
 refine⟨h'.os.trans h.os,h'.tape.trans h.tape,h'.output.trans h.output,Nat.le_trans h.size h'.size,fun k hk ho hc=>?_,fun k r hr=>h'.ext k r (h.ext k r hr),fun k hk=>?_⟩
 . exact(h'.block k (Nat.lt_of_lt_of_le hk h.size) (h.none' hk ho) (fun e=>hc (hD k hk e))).trans (h.block k hk ho hc)
 .
  by_cases e:o' k=o k
  . have:=h'.new k (by rw[e];exact hk);exact Nat.le_trans h.size this
  . exact h.new k e
theorem ChgX.cell (h:ChgX C o o' w w'){p:Addr}{v:Value}(hc:w.cell? p=some v)(hb:o p.block=none)(hn:¬ C p.block):w'.cell? p=some v :=
 (World.cell?_of_block (w:=w) (h.block p.block (World.block_lt_of_cell? w p hc) hb hn)).trans hc
theorem ChgX.below0 (h:ChgX NoB (fun _=>none) o w w'):Below w.heap.size w w':=⟨h.os,h.tape,h.output,h.size,fun k hk=>h.block k hk rfl (fun e=>e)⟩
theorem ChgX.lower (h:ChgX C (fun _=>none) o w w')(h':ChgX D o o' w' w'')(hD:∀ k,D k->w.heap.size<=k):ChgX C (fun _=>none) o' w w'':=h.trans h' (fun k hk e=>by have:=hD k e;omega)
end
structure Zm2 (C:Nat->Prop)(K:Law)(o:Own)(w:World)(mb:Nat)(m:ManD)(V:Nat->BF)(o':Own)(w':World)(m':ManD)(V':Nat->BF):Prop where
 is:Zfo (K m'.d V') o' w' mb m'
 lt:Zal o' w'
 chg:ChgX C o o' w w'
 ok:Zaq m'.d V'
 ext:Ext m.d V m'.d V'
 hs:m'.hs=m.hs
 next:m'.next=m.next
theorem Step.toX {K:Law}{o o':Own}{w w':World}{mb:Nat}{m m':ManD}{V V':Nat->BF}(h:Step K o w mb m V o' w' m' V')(C:Nat->Prop):Zm2 C K o w mb m V o' w' m' V':=⟨h.is,h.lt,ChgX.of_chg h.chg C,h.ok,h.ext,h.hs,h.next⟩
theorem Zq6 {m m':ManD}{V V':Nat->BF}(h:Zca m)(ext:Ext m.d V m'.d V')(ok:Zaq m'.d V')(e1:m'.hs=m.hs)(e2:m'.next=m.next):Zca m':=by
 refine⟨by rw[e1];exact h.nodup,by rw[e1];exact h.zero,by rw[e1];exact h.one,by rw[e1,e2];exact h.lt,by rw[e2];exact h.next,fun p hp=>?_,by rw[e1,e2];exact h.len,fun i b hb=>?_⟩
 . rw[e1] at hp;exact ext.ok (h.ok p hp)
 .
  rw[e1];cases hn:Zab m.d i with
  | some b0=>rw[ext.ext i b0 hn];exact h.refs i b0 hn
  | none =>
    rw[ext.ext0 i hn];have hi:i≠0:=by rintro rfl;rw[ok.dag.none0] at hb;cases hb
    have:Zb7 m.hs i=0:=by
     unfold Zb7;rw[List.length_eq_zero_iff,List.filter_eq_nil_iff];intro p hp;have ho:=h.ok p hp;simp only[Bool.and_eq_true,decide_eq_true_eq,beq_iff_eq,not_and];rintro _ rfl;rcases ho with h0|⟨b1,g0⟩
     . exact hi h0
     . rw[hn] at g0;cases g0
    rw[this];rfl
structure SatE (K:Law)(n:Nat)(Od:List Nat->Prop)(room:Nat)(w0:World)(mb:Nat)(fs:List (Int×BF))(nx:Int)(w:World)(o:Own)(m:ManD)(V:Nat->BF):Prop where
 is:Zfo (K m.d V) o w mb m
 lt:Zal o w
 ok:Zsv m V
 vars:m.d.vars.length=n
 od:Od m.d.vars
 room:m.d.pool.room=room
 next:m.next=nx
 hs:m.hs.map (fun p=>(p.1,ef V p.2))=fs
 chg:ChgX NoB (fun _=>none) o w0 w
section
variable {K:Law}{n:Nat}{Od:List Nat->Prop}{room:Nat}{w0 w w':World}{mb:Nat}{fs:List (Int×BF)}{nx:Int}{o o':Own}{m m':ManD}{V V':Nat->BF}
theorem SatE.find (h:SatE K n Od room w0 mb fs nx w o m V){k:Int}{F:BF}(hk:(k,F)∈fs):∃ f,(k,f)∈m.hs/\ef V f=F:=by
 rw[<- h.hs] at hk;obtain⟨p,hp,e⟩:=List.mem_map.1 hk;cases e;exact⟨p.2,hp,rfl⟩
theorem SatE.none0 (h:SatE K n Od room w0 mb fs nx w o m V){k:Nat}(hk:k<w0.heap.size):o k=none:=h.chg.none' hk rfl
theorem Zzi {hs:List (Int×Nat)}{d:Zag}(hok:∀ p∈hs,okE (Zab d) p.2)(hv:∀ i,(i=0\/∃ b,Zab d i=some b)->V' i=V i):hs.map (fun p=>(p.1,ef V' p.2))=hs.map (fun p=>(p.1,ef V p.2)):=by
 refine List.map_congr_left fun p hp=>?_
 have e:ef V' p.2=ef V p.2:=by
  funext ρ;unfold ef;rw[hv (p.2/2) (hok p hp)]
 rw[e]
theorem SatE.withOd {Od':List Nat->Prop}(h:SatE K n Od room w0 mb fs nx w o m V)(hO:Od' m.d.vars):SatE K n Od' room w0 mb fs nx w o m V :=
 ⟨h.is,h.lt,h.ok,h.vars,hO,h.room,h.next,h.hs,h.chg⟩
theorem SatE.step {C:Nat->Prop}(h:SatE K n Od room w0 mb fs nx w o m V)(s:Zm2 C K o w mb m V o' w' m' V')(hC:∀ k,C k->w0.heap.size<=k):SatE K n Od room w0 mb fs nx w' o' m' V' :=
 ⟨s.is,s.lt,⟨s.ok,Zq6 h.ok.handles s.ext s.ok s.hs s.next⟩,by rw[s.ext.vars];exact h.vars,by rw[s.ext.vars];exact h.od,by rw[s.ext.room];exact h.room,s.next.trans h.next,
  by rw[s.hs,Zzi h.ok.handles.ok s.ext.val];exact h.hs,h.chg.lower s.chg hC⟩
theorem SatE.other {C:Nat->Prop}(h:SatE K n Od room w0 mb fs nx w o m V)(hx:Wr C w w')(hC:∀ k,k<w.heap.size->C k->w0.heap.size<=k/\o k=none):SatE K n Od room w0 mb fs nx w' o m V:=by
 obtain⟨s,hm⟩:=h.is;refine⟨⟨s,hm.keep (fun g r hg=>hx.keep g (h.lt g r hg) (fun e=>?_)) (fun _ _ h=>h)⟩,h.lt.mono hx.size,h.ok,h.vars,h.od,h.room,h.next,h.hs,h.chg.trans (ChgX.of_wr (C:=fun k=>w0.heap.size<=k) hx o (fun k hk e=>(hC k hk e).1)) (fun k hk e=>by omega)⟩;have:=(hC g (h.lt g r hg) e).2;rw[hg] at this;cases this
theorem SatE.below (h:SatE K n Od room w0 mb fs nx w o m V)(hb:Below w.heap.size w w'):SatE K n Od room w0 mb fs nx w' o m V:=h.other (Wr.of_below hb NoB) (fun _ _ e=>e.elim)
theorem SatE.gave (h:SatE K n Od room w0 mb fs nx w o m V){r:Nat}(g:Gave K o w mb m V r o' w' m'):SatE K n Od room w0 mb (fs++[(nx,ef V r)]) (nx+1) w' o' m' V :=
 ⟨g.is,g.lt,g.ok,by rw[g.vars];exact h.vars,by rw[g.vars];exact h.od,by rw[g.room];exact h.room,by rw[g.next,h.next],by rw[g.hs,List.map_append,h.hs,<- h.next];rfl,h.chg.lower (ChgX.of_chg g.chg NoB) (fun _ e=>e.elim)⟩
theorem Zjn {d':Zag}(h:Zca m)(hk:Zaq m.d V)(r:Zbi m.d d'):Zca { m with d:=d' }:=by
 have g1:∀ p∈m.hs,okE (Zab d') p.2:=by
  intro p hp;rcases h.ok p hp with h0|⟨b,hb⟩
  . exact .inl h0
  .
   by_cases h1:1<p.1
   .
    refine .inr ⟨b,?_⟩;rw[r.nodes,if_pos]
    . exact hb
    .
     refine hk.live.cnt.pos_of_ext hb ?_;rw[h.refs _ _ hb];have:0<Zb7 m.hs (p.2/2):=by
      unfold Zb7;refine List.length_pos_of_mem (List.mem_filter.2 ⟨hp,?_⟩);simp[h1]
     omega
   .
    refine .inl ?_;have g2:=h.lt p hp;have hu:∀ q∈m.hs,q.1=p.1->q=p:=by
     intro q hq e;have g0:=h.nodup;have h1:=Zdl (l:=encH m.hs) (Zer g0) (List.mem_map.2 ⟨q,hq,rfl⟩);have h2:=Zdl (l:=encH m.hs) (Zer g0) (List.mem_map.2 ⟨p,hp,rfl⟩);rw[e,h2] at h1;have e2:(p.2:Int)=(q.2:Int):=by injection h1 with h1;injection h1
     exact Prod.ext e (by omega)
    rcases(by omega:p.1=0\/p.1=1) with e|e
    . rw[<- hu _ h.zero e.symm];rfl
    . rw[<- hu _ h.one e.symm];rfl
 exact⟨h.nodup,h.zero,h.one,h.lt,h.next,g1,h.len,fun i b hb=>by rw[r.ext i b hb];exact h.refs i b (r.sub hb).1⟩
end
theorem wclear {K:Law}{n:Nat}{Od:List Nat->Prop}{room:Nat}{w0 w:World}{mb:Nat}{fs:List (Int×BF)}{nx:Int}{o:Own}{m:ManD}{V:Nat->BF}{s:ManW}(h:SatE K n Od room w0 mb fs nx w o m V)(hs:Zcg (K m.d V) o w mb m s)(G:Phi) :
 Calls prog 181 #[.pointer (some ⟨s.me,0,none⟩)] w fun x w'=>x=.returned (.tuple #[])/\Zcg G o w' mb m s/\Chg (· = .entries) o o w w'/\Zal o w':=by
 refine(Zsz o s.me (K m.d V) G w hs.memo h.lt).mono ?_;rintro x w' ⟨h1,h2,h3,h4⟩;exact⟨h1,hs.setMemo h.lt h2 (h3.mono fun r e=>.inr e),h3,h4⟩
theorem Zlv {K:Law}{n:Nat}{Od:List Nat->Prop}{room:Nat}{w0 w:World}{mb:Nat}{fs:List (Int×BF)}{nx:Int}{o:Own}{m:ManD}{V:Nat->BF}(h:SatE K n Od room w0 mb fs nx w o m V) :
 Calls prog 223 #[.pointer (some ⟨mb,0,none⟩)] w fun x w'=>x=.returned (.int .i64 m.d.dead)/\∃ o' d',SatE K n Od room w0 mb fs nx w' o' { m with d:=d' } V/\Zbi m.d d'/\Chg (fun _=>True) o o' w w':=by
 obtain⟨s,hs⟩:=h.is;obtain⟨c0,c1,c2,c3,c4,c5,f0⟩:=cells6 hs.blk;have HC:Hid (∀ w1,Zcg (fun _ _ _ _ _=>False) o w1 mb m s/\Chg (· = .entries) o o w w1/\Zal o w1->Calls prog 212 #[.pointer (some ⟨s.sb,0,none⟩)] w1 fun x w'=>x=.returned (.int .i64 m.d.dead)/\∃ o' d',SatE K n Od room w0 mb fs nx w' o' { m with d:=d' } V/\Zbi m.d d'/\Chg (fun _=>True) o o' w w'):=by
  refine Hd ?_;rintro w1 ⟨g1,g2,g3⟩;have fin:∀ o' w' d',Zcg (fun _ _ _ _ _=>False) o' w' mb { m with d:=d' } s->Zal o' w'->Zbi m.d d'->Chg Zar o o' w1 w'->∃ o' d',SatE K n Od room w0 mb fs nx w' o' { m with d:=d' } V/\Zbi m.d d'/\Chg (fun _=>True) o o' w w':=by
   intro o' w' d' a1 a2 a3 a4;have hc:Chg (fun _=>True) o o' w w':=g2.any.trans a4.any;refine⟨o',d',⟨⟨s,a1.mono fun _ _ _ _ _ e=>e.elim⟩,a2,⟨a3.ok h.ok.store,Zjn h.ok.handles h.ok.store a3⟩,by dsimp only;rw[a3.vars];exact h.vars,by dsimp only;rw[a3.vars];exact h.od,by dsimp only;rw[a3.room];exact h.room,h.next,h.hs,h.chg.lower (ChgX.of_chg hc NoB) (fun _ e=>e.elim)⟩,a3,hc⟩
  by_cases h0:m.d.dead=0
  . refine(Zii g1.store h0).mono ?_;rintro x w' ⟨rfl,hb⟩;exact⟨by rw[h0];rfl,fin o w' m.d (g1.below g3 hb) (g3.mono hb.size) (Zbi.none h.ok.store h0) (Chg.of_below hb _ _)⟩
  . refine(Zkr g1.store g3 h.ok.store h0).mono ?_;rintro x w' ⟨rfl,o',d',b1,b2,b3,b4⟩;exact⟨rfl,fin o' w' d' (g1.setStore g3 b1 b4) b2 b3 b4⟩
 have g0:=Hd (wclear h hs (fun _ _ _ _ _=>False));clear h hs
 go_enter func223,ntmps223
 go_wp2_with fail;refine g0.out.mono ?_;rintro x w1 ⟨rfl,g1,g2,g3⟩;obtain⟨d0,d1,d2,d3,d4,d5,f1⟩:=cells6 g1.blk;have g4:=Hd (HC.out w1 ⟨g1,g2,g3⟩);clear g1 g2 g3 c0 c1 c2 c3 c4 c5 f0 g0 HC;go_wp2_with fail;refine g4.out.mono ?_;rintro x w2 ⟨rfl,hq⟩;have HQ:=Hd hq;clear hq;go_wp2_with fail;go_ret;exact⟨rfl,HQ.out⟩
open Go.RowKit
def HapG (K:Law)(n:Nat)(Od:List Nat->Prop)(room:Nat)(w0:World)(mb:Nat)(fs:List (Int×BF))(nx:Int)(ev:Ev):Prop :=
 ∀ (o:Own) (W:World) (m:ManD) (V:Nat->BF),SatE K n Od room w0 mb fs nx W o m V->Calls prog 222 #[.pointer (some ⟨mb,0,none⟩),evA ev] W fun x w'=>x=.returned (.tuple #[]) /\
  ∃ o' m' V',SatE K n Od room w0 mb fs nx w' o' m' V'/\m'.waits=m.waits/\m'.calls=m.calls/\(m'.d.pool.many<=m.d.pool.many\/m'.d.pool.many<=fs.length*2^n)/\ChgX NoB o o' W w'
def StE (K:Law)(n:Nat)(Od:List Nat->Prop)(room:Nat)(w0:World)(mb:Nat)(fs:List (Int×BF))(nx:Int)(St:ManD->Prop)(m':ManD):Prop :=
 ∀ (o:Own) (W:World) (m:ManD) (V:Nat->BF),SatE K n Od room w0 mb fs nx W o m V->m.waits=m'.waits->m.calls=m'.calls->(m.d.pool.many<=m'.d.pool.many\/m.d.pool.many<=fs.length*2^n)->St m
def OpG (K:Law)(n:Nat)(Od:List Nat->Prop)(room:Nat)(w0:World)(mb:Nat)(fs:List (Int×BF))(nx:Int)(C:Nat->Prop)(B:World->Prop)(St:ManD->Prop)(gop:Nat)(lop:Array Value)(Q:World->ManD->(Nat->BF)->Nat->Prop)(E:Int->ManD->ManD->Prop):Prop :=
 ∀ (o:Own) (W:World) (m:ManD) (V:Nat->BF) (xb:Nat),SatE K n Od room w0 mb fs nx W o m V->B W->(∀ k,C k->k<W.heap.size/\o k=none)->St m->Zig o W xb mb->¬ C xb ->
  Calls prog gop (#[.pointer (some ⟨xb,0,none⟩)]++lop) W fun e w'=>∃ (o':Own) (m':ManD) (V':Nat->BF),Zm2 C K o W mb m V o' w' m' V'/\B w' /\
   ((∃ r:Nat,e=.returned (.int .i64 r)/\okE (Zab m'.d) r/\Q w' m' V' r) \/
    (∃ er:Int,e=Zeo er false ev0/\er≠0/\m'.waits=m.waits/\St m'/\E er m m') \/
    (∃ ev,e=Zeo 0 true ev/\m.waits=ev::m'.waits/\StE K n Od room w0 mb fs nx St m'/\HapG K n Od room w0 mb fs nx ev))
theorem Zz8 (gop:Nat)(lop:Array Value)(W:World)(xb ob fb:Nat)(R:Nat->World->Prop)(R2:Int->Bool->Ev->World->Prop)(eg:∀ args w,(callFunc gop args).run prog w=.ok (.enter gop args) w)
 (hob:W.cell? ⟨ob,0,none⟩=some (.func (.func gop) #[] lop)) (hop:Calls prog gop (#[.pointer (some ⟨xb,0,none⟩)]++lop) W fun e w'=>(∃ r:Nat,e=.returned (.int .i64 r)/\R r w'/\(∃ z:Int,w'.cell? ⟨fb,0,none⟩=some (.int .i64 z))/\w'.frozen? ⟨fb,0,none⟩=false) \/
  ∃ er evt ev,e=Zeo er evt ev/\R2 er evt ev w') :
 Calls prog 187 #[.pointer (some ⟨xb,0,none⟩),.pointer (some ⟨ob,0,none⟩),.pointer (some ⟨fb,0,none⟩)] W fun e w'=>(e=.returned (.tuple #[])/\∃ r w1,R r w1/\w'=w1.setCell ⟨fb,0,none⟩ (.int .i64 (r:Nat)))\/∃ er evt ev,e=Zeo er evt ev/\R2 er evt ev w':=by
 have g0:=Hd hop;clear hop
 go_enter func187,ntmps187
 go_wp2_with fail;refine g0.out.mono ?_;rintro e w' (⟨r,rfl,hr,⟨z,hc⟩,hf⟩|⟨er,evt,ev,rfl,hr⟩)
 . have HR:=Hd hr;clear hr;go_wp2_with fail;go_end0;exact .inl ⟨rfl,r,w',HR.out,rfl⟩
 . have HR:=Hd hr;clear hr;unfold Zeo;go_wp2_with fail;exact⟨rfl,.inr ⟨er,evt,ev,rfl,HR.out⟩⟩
structure RunI (K:Law)(n:Nat)(Od:List Nat->Prop)(room:Nat)(w0:World)(mb:Nat)(fs:List (Int×BF))(nx:Int)(C:Nat->Prop)(B:World->Prop)(St:ManD->Prop)(gop:Nat)(lop:Array Value)(o0:Own)(w:World)(k:Nat)(full:Bool)(W:World)(o:Own)(m:ManD)(V:Nat->BF):Prop where
 sat:SatE K n Od room w0 mb fs nx W o m V
 bok:B W
 st:St m
 len:m.waits.length=k
 cok:∀ c,C c->c<w.heap.size/\o c=none
 chg:ChgX C o0 o w W
 size:w.heap.size+2<=W.heap.size
 obn:o w.heap.size=none
 fbn:o (w.heap.size+1)=none
 ob:W.heap[w.heap.size]?=some (.cells #[.func (.func gop) #[] lop] 202 (0,0))
 fb:∃ z:Int,W.heap[w.heap.size+1]?=some (.cells #[.int .i64 z] 151 (0,0))
 clean:full=true->m.d.dead=0
def RunF (K:Law)(n:Nat)(Od:List Nat->Prop)(room:Nat)(w0:World)(mb:Nat)(fs:List (Int×BF))(nx:Int)(C:Nat->Prop)(B:World->Prop)(Q:World->ManD->(Nat->BF)->Nat->Prop)(E:Int->ManD->ManD->Prop)(o0:Own)(w:World)(er:Int)(W:World):Prop :=
 ∃ o m V,SatE K n Od room w0 mb fs nx W o m V/\B W/\ChgX C o0 o w W/\w.heap.size+2<=W.heap.size/\o (w.heap.size+1)=none /\
  ((er=0/\∃ r:Nat,okE (Zab m.d) r/\Q W m V r/\W.heap[w.heap.size+1]?=some (.cells #[.int .i64 r] 151 (0,0))) \/
   (er≠0/\∃ m0:ManD,E er m0 m/\(er=7->m0.d.dead=0)))
theorem Zz9 {K:Law}{n:Nat}{Od:List Nat->Prop}{room:Nat}{w0:World}{mb:Nat}{fs:List (Int×BF)}{nx:Int}{C:Nat->Prop}{B:World->Prop}{St:ManD->Prop}{gop:Nat}{lop:Array Value}{Q:World->ManD->(Nat->BF)->Nat->Prop}{E:Int->ManD->ManD->Prop}
 (hB:∀ W W',B W->(∀ c,C c->W'.heap[c]?=W.heap[c]?)->B W') (hQ:∀ W W' m V r,Q W m V r->(∀ c,C c->W'.heap[c]?=W.heap[c]?)->Q W' m V r) (hSt:∀ (m:ManD) (d:Zag),St m->Zbi m.d d->St { m with d:=d }) (hC0:∀ c,C c->w0.heap.size<=c) (eg:∀ args w,(callFunc gop args).run prog w=.ok (.enter gop args) w)
 (hop:OpG K n Od room w0 mb fs nx C B St gop lop Q E) {o:Own} {w:World} {m:ManD} {V:Nat->BF} (h:SatE K n Od room w0 mb fs nx w o m V) (hb:B w) (hC:∀ c,C c->c<w.heap.size/\o c=none) (hst:St m) :
 Calls prog 186 #[.pointer (some ⟨mb,0,none⟩),.func (.func 187) #[] #[.pointer (some ⟨w.heap.size,0,none⟩),.pointer (some ⟨w.heap.size+1,0,none⟩)]] (doW gop lop w) fun x w'=>∃ er,x=.returned (.int .i64 er)/\RunF K n Od room w0 mb fs nx C B Q E o w er w':=by
 have hz:(doW gop lop w).heap.size=w.heap.size+2:=by simp[doW]
 have gi:Below w.heap.size w (doW gop lop w):=(Zad w _).alloc (by simp) _;have gt:(doW gop lop w).heap[w.heap.size+1]?=some (.cells #[.int .i64 0] 151 (0,0)):=by
  have:=heap_alloc_new (w.alloc (.cells #[.func (.func gop) #[] lop] 202)) (.cells #[.int .i64 0] 151);rw[World.size_alloc] at this;exact this
 have gq:(doW gop lop w).heap[w.heap.size]?=some (.cells #[.func (.func gop) #[] lop] 202 (0,0)):=(Go.heap_alloc_old _ _ (by simp)).trans (heap_alloc_new w _);have hw0:=h.chg.size;have gg:RunI K n Od room w0 mb fs nx C B St gop lop o w m.waits.length false (doW gop lop w) o m V :=
  ⟨h.below gi,hB _ _ hb (fun c hc=>gi.block c (hC c hc).1),hst,rfl,hC,ChgX.of_below gi o C,by omega,h.lt.none (Nat.le_refl _),h.lt.none (by omega),gq,⟨0,gt⟩,by simp⟩
 have g8:∀ {k full W W' o1 m1 V1},RunI K n Od room w0 mb fs nx C B St gop lop o w k full W o1 m1 V1->∀ {s:Nat},w.heap.size+2<=s->o1 s=none->o1 (s+1)=none->Ali s W W'->RunI K n Od room w0 mb fs nx C B St gop lop o w k full W' o1 m1 V1:=by
  intro k full W W' o1 m1 V1 hi s hs n0 n1 a;have gj:=hi.size;have hk:∀ k,k<w.heap.size+2->W'.heap[k]?=W.heap[k]?:=fun k hk=>a.keep k (by omega) (by omega)
  refine⟨hi.sat.other a (fun k _ e=>?_),hB _ _ hi.bok (fun c hc=>hk c (by have:=(hi.cok c hc).1;omega)),hi.st,hi.len,hi.cok,hi.chg.trans (ChgX.of_wr (C:=fun k=>w.heap.size<=k) a o1 (fun k _ e=>by omega)) (fun k hk e=>by omega),Nat.le_trans hi.size a.size,hi.obn,hi.fbn,(hk _ (by omega)).trans hi.ob,?_,hi.clean⟩
  .
   rcases e with rfl|rfl
   . exact⟨by omega,n0⟩
   . exact⟨by omega,n1⟩
  . obtain⟨z,hz⟩:=hi.fb;exact⟨z,(hk _ (by omega)).trans hz⟩
 have gf:∀ {k full full' W W' o1 m1 V1 o2 m2 V2},RunI K n Od room w0 mb fs nx C B St gop lop o w k full W o1 m1 V1->SatE K n Od room w0 mb fs nx W' o2 m2 V2->ChgX NoB o1 o2 W W'->m2.waits=m1.waits->St m2->(full'=true->m2.d.dead=0)->RunI K n Od room w0 mb fs nx C B St gop lop o w k full' W' o2 m2 V2:=by
  intro k full full' W W' o1 m1 V1 o2 m2 V2 hi gm hc e1 e2 e3;have gj:=hi.size;obtain⟨z,hz⟩:=hi.fb
  exact⟨gm,hB _ _ hi.bok (fun c ga=>hc.block c (by have:=(hi.cok c ga).1;omega) (hi.cok c ga).2 (fun e=>e)),e2,by rw[e1];exact hi.len,fun c ga=>⟨(hi.cok c ga).1,hc.none' (by have:=(hi.cok c ga).1;omega) (hi.cok c ga).2⟩,
   hi.chg.trans hc (fun _ _ e=>e.elim),Nat.le_trans hi.size hc.size,hc.none' (by omega) hi.obn,hc.none' (by omega) hi.fbn,(hc.block _ (by omega) hi.obn (fun e=>e)).trans hi.ob,⟨z,(hc.block _ (by omega) hi.fbn (fun e=>e)).trans hz⟩,e3⟩
 refine Yay mb _ _ _ Zs4 (fun k full W=>∃ o1 m1 V1,RunI K n Od room w0 mb fs nx C B St gop lop o w k full W o1 m1 V1) _ ?_ _ ⟨o,m,V,gg⟩;rintro k full W ⟨o1,m1,V1,hi⟩;have gj:=hi.size;obtain⟨s,hs⟩:∃ s,s=W.heap.size:=⟨_,rfl⟩
 refine⟨fun st W1=>match st with
  | none=>∃ (o':Own) (m':ManD) (V':Nat->BF) (r:Nat) (w1:World),SatE K n Od room w0 mb fs nx w1 o' m' V'/\B w1/\ChgX C o o' w w1/\s+3<=w1.heap.size/\(∀ q,w.heap.size<=q->q<s+3->o1 q=none->o' q=none)/\(∃ z:Int,w1.heap[w.heap.size+1]?=some (.cells #[.int .i64 z] 151 (0,0)))/\okE (Zab m'.d) r/\Q w1 m' V' r/\W1=w1.setCell ⟨w.heap.size+1,0,none⟩ (.int .i64 (r:Nat))
  | some (er,evt,ev)=>∃ (o':Own) (m':ManD) (V':Nat->BF),RunI K n Od room w0 mb fs nx C B St gop lop o w m'.waits.length false W1 o' m' V'/\s+3<=W1.heap.size/\(∀ q,w.heap.size<=q->q<s+3->o1 q=none->o' q=none) /\
   ((evt=false/\er≠0/\m'.waits=m1.waits/\E er m1 m')\/(evt=true/\m1.waits=ev::m'.waits/\StE K n Od room w0 mb fs nx St m'/\HapG K n Od room w0 mb fs nx ev)),?_,?_,?_,?_,?_⟩
 .
  unfold Zxo;have g9:Below W.heap.size W (tryW mb W):=((Zad _ _).alloc (by simp) _).alloc (by simp;omega) _;have go:(tryW mb W).heap.size=W.heap.size+3:=by unfold tryW;simp
  obtain⟨T,hT⟩:∃ T,T=tryW mb W:=⟨_,rfl⟩;have h1:(tryW mb W).heap[W.heap.size+2]?=some (.cells #[.pointer (some ⟨mb,0,none⟩)] 243 (0,0)):=by
   have:=heap_alloc_new ((W.alloc (.cells #[.int .i64 0,.bool false,.int .i64 0,.int .i64 0,.int .i64 0] 245)).alloc (.cells #[.bool false] 4)) (.cells #[.pointer (some ⟨mb,0,none⟩)] 243);rw[World.size_alloc,World.size_alloc] at this;exact this
  rw[<- hT] at g9 go h1 ⊢;clear hT;have g7:=hi.sat.below g9;have gv:Zig o1 T (W.heap.size+2) mb:=⟨cell1 h1,hi.sat.lt.none (by omega)⟩;have gn:=hop o1 T m1 V1 (W.heap.size+2) g7 (hB _ _ hi.bok (fun c hc=>g9.block c (by have:=(hi.cok c hc).1;omega))) (fun c hc=>⟨by have:=(hi.cok c hc).1;omega,(hi.cok c hc).2⟩) hi.st gv (fun e=>by have:=(hi.cok _ e).1;omega);have gh:=(g9.block w.heap.size (by omega)).trans hi.ob;obtain⟨z,hz⟩:=hi.fb;have ge:=(g9.block (w.heap.size+1) (by omega)).trans hz;have gy:∀ q,w.heap.size<=q->¬ C q:=fun q hq e=>by have:=(hi.cok q e).1;omega
  have g0:∀ {o':Own} {w1:World},ChgX C o1 o' T w1->∀ q,w.heap.size<=q->q<s+3->o1 q=none->w1.heap[q]?=T.heap[q]?:=fun hc q h1 h2 h3=>hc.block q (by omega) h3 (gy q h1)
  refine(Zz8 gop lop T (W.heap.size+2) w.heap.size (w.heap.size+1) (fun r w1=>∃ o' m' V',Zm2 C K o1 T mb m1 V1 o' w1 m' V'/\B w1/\okE (Zab m'.d) r/\Q w1 m' V' r)
   (fun er evt ev w1=>∃ o' m' V',Zm2 C K o1 T mb m1 V1 o' w1 m' V'/\B w1/\((evt=false/\er≠0/\m'.waits=m1.waits/\St m'/\E er m1 m')\/(evt=true/\m1.waits=ev::m'.waits/\StE K n Od room w0 mb fs nx St m'/\HapG K n Od room w0 mb fs nx ev))) eg (cell1 gh) (gn.mono ?_)).mono ?_
  .
   rintro e w1 ⟨o',m',V',st,b1,(⟨r,rfl,q1,q2⟩|⟨er,rfl,q1,q2,q3,q4⟩|⟨ev,rfl,q1,q2,q3⟩)⟩
   . have hf:=(g0 st.chg (w.heap.size+1) (by omega) (by omega) hi.fbn).trans ge;exact .inl ⟨r,rfl,⟨o',m',V',st,b1,q1,q2⟩,⟨z,cell1 hf⟩,by simp[World.frozen?,hf]⟩
   . exact .inr ⟨er,false,ev0,rfl,o',m',V',st,b1,.inl ⟨rfl,q1,q2,q3,q4⟩⟩
   . exact .inr ⟨0,true,ev,rfl,o',m',V',st,b1,.inr ⟨rfl,q1,q2,q3⟩⟩
  .
   have n0:o1 W.heap.size=none:=hi.sat.lt.none (Nat.le_refl _);have n1:o1 (W.heap.size+1)=none:=hi.sat.lt.none (by omega);rintro e W' (⟨rfl,r,w1,⟨o',m',V',st,b1,q1,q2⟩,rfl⟩|⟨er,evt,ev,rfl,o',m',V',st,b1,q⟩)
   .
    have hf:=(g0 st.chg (w.heap.size+1) (by omega) (by omega) hi.fbn).trans ge;have gl:=st.chg.size;refine⟨by simp[World.setCell];omega,?_,?_,.inl ⟨rfl,o',m',V',r,w1,g7.step st hC0,b1,(hi.chg.trans (ChgX.of_below g9 o1 C) (fun _ _ e=>e)).trans st.chg (fun _ _ e=>e),by omega,fun q _ h2 h3=>st.chg.none' (by omega) h3,⟨z,hf⟩,q1,q2,rfl⟩⟩
    . exact(Zai (by show _≠w.heap.size+1;omega) _).trans (g0 st.chg _ (by omega) (by omega) n0)
    . exact(Zai (by show _≠w.heap.size+1;omega) _).trans (g0 st.chg _ (by omega) (by omega) n1)
   .
    have gl:=st.chg.size;have b2:St m':=by
     rcases q with ⟨_,_,_,q,_⟩|⟨_,_,q,_⟩
     . exact q
     . exact q _ _ _ _ (g7.step st hC0) rfl rfl (.inl (Nat.le_refl _))
    have gw:=(hi.chg.trans (ChgX.of_below g9 o1 C) (fun _ _ e=>e)).trans st.chg (fun _ _ e=>e);refine⟨by omega,g0 st.chg _ (by omega) (by omega) n0,g0 st.chg _ (by omega) (by omega) n1,.inr ⟨er,evt,ev,rfl,o',m',V',?_,by omega,fun q _ h2 h3=>st.chg.none' (by omega) h3,q.imp (fun⟨a1,a2,a3,_,a4⟩=>⟨a1,a2,a3,a4⟩) id⟩⟩
    exact⟨g7.step st hC0,b1,b2,rfl,fun c hc=>⟨(hi.cok c hc).1,st.chg.none' (by have:=(hi.cok c hc).1;omega) (hi.cok c hc).2⟩,gw,by omega,st.chg.none' (by omega) hi.obn,st.chg.none' (by omega) hi.fbn,
     (g0 st.chg _ (by omega) (by omega) hi.obn).trans gh,⟨z,(g0 st.chg (w.heap.size+1) (by omega) (by omega) hi.fbn).trans ge⟩,by simp⟩
 .
  rintro W1 W2 ⟨o',m',V',r,w1,a1,a2,a3,a4,a5,⟨z,a6⟩,a7,a8,rfl⟩ al;have gc:Wr (fun k=>k=w.heap.size+1\/k=s\/k=s+1) w1 W2:=Wr.trans ((Wr.refl (fun k=>k=w.heap.size+1) w1).setCell (p:=⟨w.heap.size+1,0,none⟩) (.inl rfl) _) al (fun k _ e=>.inl e) (fun k _ e=>.inr (by rw[hs];exact e));have n0:o' s=none:=a5 s (by omega) (by omega) (by rw[hs];exact hi.sat.lt.none (Nat.le_refl _));have n1:o' (s+1)=none:=a5 (s+1) (by omega) (by omega) (by rw[hs];exact hi.sat.lt.none (by omega));have nf:o' (w.heap.size+1)=none:=a5 _ (by omega) (by omega) hi.fbn;have hf:=(al.keep (w.heap.size+1) (by simp[World.setCell];omega) (by omega)).trans (Zah a6 _);refine⟨o',m',V',a1.other gc (fun k _ e=>?_),hB _ _ a2 (fun c hc=>gc.keep c (by have:=(hi.cok c hc).1;omega) (by have:=(hi.cok c hc).1;omega)),a3.trans (ChgX.of_wr (C:=fun k=>w.heap.size<=k) gc o' (fun k _ e=>by omega)) (fun k hk e=>by omega),by have:=gc.size;omega,nf,.inl ⟨rfl,r,a7,hQ _ _ _ _ _ a8 (fun c hc=>gc.keep c (by have:=(hi.cok c hc).1;omega) (by have:=(hi.cok c hc).1;omega)),hf⟩⟩;rcases e with rfl|rfl|rfl
  . exact⟨by omega,nf⟩
  . exact⟨by omega,n0⟩
  . exact⟨by omega,n1⟩
 .
  rintro er ev W1 W2 ⟨o',m',V',gd,a4,a5,(⟨h1,_⟩|⟨_,gu,gp,gx⟩)⟩ al
  . cases h1
  rw[<- hs] at al;have n0:o' s=none:=a5 s (by omega) (by omega) (by rw[hs];exact hi.sat.lt.none (Nat.le_refl _));have n1:o' (s+1)=none:=a5 (s+1) (by omega) (by omega) (by rw[hs];exact hi.sat.lt.none (by omega));have g6:=g8 gd (by omega) n0 n1 al;refine(gx o' W2 m' V' g6.sat).mono ?_;rintro x w' ⟨rfl,o2,m2,V2,g1,g2,g3,g5,g4⟩;refine⟨rfl,m'.waits.length,by rw[<- hi.len,gu];simp,o2,m2,V2,gf g6 g1 g4 g2 (gp _ _ _ _ g1 g2 g3 g5) (by simp)⟩
 .
  rintro ev W1 W2 ⟨o',m',V',gd,a4,a5,(⟨_,_,hw,_⟩|⟨h1,_⟩)⟩ al gz
  . rw[<- hs] at al;have n0:o' s=none:=a5 s (by omega) (by omega) (by rw[hs];exact hi.sat.lt.none (Nat.le_refl _));have n1:o' (s+1)=none:=a5 (s+1) (by omega) (by omega) (by rw[hs];exact hi.sat.lt.none (by omega));have g6:=g8 gd (by omega) n0 n1 al;refine(Zlv g6.sat).mono ?_;rintro x w' ⟨rfl,o2,d2,g1,g2,g3⟩;have gk:=gf (full':=true) g6 g1 (ChgX.of_chg g3 NoB) rfl (hSt _ _ g6.st g2) (fun _=>g2.dead);rw[hw,hi.len] at gk;exact⟨⟨_,rfl⟩,o2,_,V',gk⟩
  . cases h1
 .
  rintro er ev W1 W2 ⟨o',m',V',gd,a4,a5,(⟨_,h0,hw,hE⟩|⟨h1,_⟩)⟩ al gr
  .
   rw[<- hs] at al;have n0:o' s=none:=a5 s (by omega) (by omega) (by rw[hs];exact hi.sat.lt.none (Nat.le_refl _));have n1:o' (s+1)=none:=a5 (s+1) (by omega) (by omega) (by rw[hs];exact hi.sat.lt.none (by omega));have g6:=g8 gd (by omega) n0 n1 al;refine⟨o',m',V',g6.sat,g6.bok,g6.chg,g6.size,g6.fbn,.inr ⟨h0,m1,hE,fun e7=>hi.clean ?_⟩⟩;cases full with
   | true=>rfl
   | false=>exact(gr ⟨e7,rfl⟩).elim
  . cases h1
def Zum (K:Law)(n:Nat)(Od:List Nat->Prop)(room:Nat)(w0:World)(mb:Nat)(fs:List (Int×BF))(nx:Int)(C:Nat->Prop)(B:World->Prop)(Q:World->ManD->(Nat->BF)->Nat->Prop)(E:Int->ManD->ManD->Prop)(o:Own)(w:World)(x:Ending)(w':World):Prop :=
 ∃ o' m' V',B w'/\ChgX C o o' w w' /\
  ((∃ r m1,x=.returned (.tuple #[.int .i64 nx,.int .i64 0])/\SatE K n Od room w0 mb (fs++[(nx,ef V' r)]) (nx+1) w' o' m' V'/\Q w' m1 V' r/\okE (Zab m1.d) r/\Zab m'.d=Zab m1.d/\m'.d.vars=m1.d.vars/\m'.d.level=m1.d.level/\m'.d.pool.many=m1.d.pool.many/\m'.waits=m1.waits/\m'.calls=m1.calls) \/
   (∃ er m0,er≠0/\x=.returned (.tuple #[.int .i64 0,.int .i64 er])/\SatE K n Od room w0 mb fs nx w' o' m' V'/\E er m0 m'/\(er=7->m0.d.dead=0)))
theorem Zzf {K:Law}(hK:Zec K){n:Nat}{Od:List Nat->Prop}{room:Nat}{w0:World}{mb:Nat}{fs:List (Int×BF)}{nx:Int}{C:Nat->Prop}{B:World->Prop}{St:ManD->Prop}{gop:Nat}{lop:Array Value}{Q:World->ManD->(Nat->BF)->Nat->Prop}{E:Int->ManD->ManD->Prop}
 (hB:∀ W W',B W->(∀ c,C c->W'.heap[c]?=W.heap[c]?)->B W') (hQ:∀ W W' m V r,Q W m V r->(∀ c,C c->W'.heap[c]?=W.heap[c]?)->Q W' m V r) (hSt:∀ (m:ManD) (d:Zag),St m->Zbi m.d d->St { m with d:=d }) (hC0:∀ c,C c->w0.heap.size<=c) (eg:∀ args w,(callFunc gop args).run prog w=.ok (.enter gop args) w)
 (hop:OpG K n Od room w0 mb fs nx C B St gop lop Q E) {o:Own} {w:World} {m:ManD} {V:Nat->BF} (h:SatE K n Od room w0 mb fs nx w o m V) (hb:B w) (hC:∀ c,C c->c<w.heap.size/\o c=none) (hst:St m) (hn:nx<1099511627776) :
 Calls prog 137 #[.pointer (some ⟨mb,0,none⟩),.func (.func gop) #[] lop] w (Zum K n Od room w0 mb fs nx C B Q E o w):=by
 have gr:∀ (fn:Fn) (first cap:Array Value) (w:World),(Instr.makeFunc fn first cap).run prog w=.ok (.func fn first cap) w:=fun _ _ _ _=>rfl
 have g5:=Hd (Zz9 hB hQ hSt hC0 eg hop h hb hC hst);have gi:=Hd hK;have gm:=Hd hB;have gl:=Hd hQ;have gd:=Hd hn;have ge:=Hd hC;have gq:=Ybg (w.alloc (.cells #[.func (.func gop) #[] lop] 202)) (.func gop) #[] lop;have HW:Hid ((w.alloc (.cells #[.func (.func gop) #[] lop] 202)).alloc (.cells #[.int .i64 0] 151)=doW gop lop w):=Hd rfl;clear h hb hK hB hQ hSt hC0 hop hC hst hn
 go_enter func137,ntmps137
 go_wp2_with fail;rw[HW.out];refine g5.out.mono ?_;rintro x w1 ⟨er,rfl,o1,m1,V1,sat,b1,g6,g7,g4,(⟨rfl,r,hr,hq,ga⟩|⟨h0,m0,hE,h7⟩)⟩
 rotate_left
 .
  have HF:Hid (Zum K n Od room w0 mb fs nx C B Q E o w (.returned (.tuple #[.int .i64 0,.int .i64 er])) w1):=Hd ⟨o1,m1,V1,b1,g6,.inr ⟨er,m0,h0,rfl,sat,hE,h7⟩⟩;have gt:(er == 0)=false:=by simpa using h0
  clear h0 hE h7 sat b1 g6 g7 g4 g5 HW;go_wp2_with fail
  go_ret2
  exact HF.out
 have g1:=cell1 ga;obtain⟨s1,g9⟩:=sat.is;obtain⟨c0,c1,c2,c3,c4,c5,f0⟩:=cells6 g9.blk;obtain⟨ss,g8⟩:=g9.store;have gh:r<eMax:=by have:=g8.edge_lt hr;unfold eMax;omega
 have gk:Hid (Calls prog 188 #[.pointer (some ⟨s1.sb,0,none⟩),.int .i64 r] w1.drew fun x w'=>x=.returned (.bool true)/\Below w1.heap.size w1 w'):=by
  have h1:=Zbl (g8.below sat.lt (Zaf w1 1)) (sat.lt.mono (Zaf w1 1).size) r gh;rw[Zkz hr] at h1;exact Hd (h1.mono fun x w' ⟨a,b⟩=>⟨a,Zh1 (n:=1) b⟩)
 have gj:=Hd sat;have HR:=Hd hr;have HQ:=Hd hq;have gn:=Hd b1;have gf:=Hd g6;have gu:=Hd g4;have lmb:mb<w1.heap.size:=Zaa c0;have lfb:w.heap.size+1<w1.heap.size:=Zaa g1;clear sat g9 g8 hr hq b1 g6 g4 g7 g5 HW;go_upto_region 9 with fail;refine Zbs (fun W:World=>Below w1.heap.size w1 W) 7 (by kernel_rfl) (Zaf w1 1) ?_;refine Zac 0 rfl rfl (by kernel_rfl) ?_;apply Exists.intro;refine⟨fun w' hw=>?_,?_⟩
 . have q1:=(hw.cell (p:=⟨mb,0,none⟩) lmb).trans c0;have q2:=(hw.cell (p:=⟨w.heap.size+1,0,none⟩) lfb).trans g1;go_simp;rfl
 simp only[Zae];refine Zac 1 rfl rfl (by kernel_rfl) ?_;apply Exists.intro;refine⟨fun w' hw=>?_,?_⟩
 . have q1:=(hw.cell (p:=⟨mb,0,none⟩) lmb).trans c0;have q2:=(hw.cell (p:=⟨w.heap.size+1,0,none⟩) lfb).trans g1;go_simp;rfl
 simp only[Zae];refine Zac 2 rfl rfl (by kernel_rfl) ?_;apply Exists.intro;refine⟨fun w' hw=>?_,?_⟩
 . have q1:=(hw.cell (p:=⟨mb,0,none⟩) lmb).trans c0;have q2:=(hw.cell (p:=⟨w.heap.size+1,0,none⟩) lfb).trans g1;go_simp;rfl
 simp only[Zae];refine Zac 3 rfl rfl (by kernel_rfl) ?_;apply Exists.intro;refine⟨fun w' hw=>?_,?_⟩
 . have q1:=(hw.cell (p:=⟨mb,0,none⟩) lmb).trans c0;have q2:=(hw.cell (p:=⟨w.heap.size+1,0,none⟩) lfb).trans g1;go_simp;rfl
 simp only[Zae];refine Zac 4 rfl rfl (by kernel_rfl) ?_;apply Exists.intro;refine⟨fun w' hw=>?_,?_⟩
 . have q1:=(hw.cell (p:=⟨mb,0,none⟩) lmb).trans c0;have q2:=(hw.cell (p:=⟨w.heap.size+1,0,none⟩) lfb).trans g1;go_simp;rfl
 simp only[Zae];refine Zan [5] (by kernel_rfl) (fun i hi hS o ho=>?_);simp only[Zbf] at hi;subst hi;simp only[Za2] at ho;subst ho;refine⟨rfl,?_⟩;refine Zas (v:=.bool true) (R:=fun w'=>Below w1.heap.size w1 w') (by go_simp) gk.out ?_;rintro w2 g3;refine⟨g3,?_⟩;simp only[Zae];have gp:=(g3.cell (p:=⟨w.heap.size+1,0,none⟩) lfb).trans g1;have d0:=(g3.cell (p:=⟨mb,0,none⟩) lmb).trans c0;have g0:=Hd (gj.out.below g3);refine Zac 6 rfl rfl (by kernel_rfl) ?_;apply Exists.intro;refine⟨fun w' hw=>?_,?_⟩
 . have q1:=(hw.cell (p:=⟨mb,0,none⟩) lmb).trans c0;have q2:=(hw.cell (p:=⟨w.heap.size+1,0,none⟩) lfb).trans g1;go_simp;rfl
 simp only[Zae];have gc:=g3;clear c0 c1 c2 c3 c4 c5 f0 g1 ga g3;refine Zbm (by kernel_rfl) ?_;have HG:=Hd (Zng gi.out g0.out.is g0.out.lt g0.out.ok r HR.out (by rw[g0.out.next];exact gd.out));have HB2:=Hd gc;clear gc;go_wp2_with fail;refine HG.out.mono ?_;rintro x w3 ⟨rfl,o3,m3,hg⟩;have g2:=Hd hg;have gd:Hid (m1.next=nx):=Hd g0.out.next
 clear hg;go_wp2_with fail
 go_ret2
 have go:=g0.out.lt;have gg:∀ c,C c->w3.heap[c]?=w1.heap[c]?:=fun c hc=>by
  have h1:=(ge.out c hc).1;have h2:=gf.out.size;have h3:=HB2.out.size;exact(g2.out.chg.alien (by omega) (gf.out.none' h1 (ge.out c hc).2)).trans (HB2.out.block c (by omega))
 refine⟨o3,m3,V1,gm.out _ _ gn.out gg,(gf.out.trans (ChgX.of_below HB2.out o1 C) (fun _ _ e=>e)).trans (ChgX.of_chg g2.out.chg C) (fun _ _ e=>e),.inl ⟨r,m1,by rw[<- gd.out];rfl,g0.out.gave g2.out,gl.out _ _ _ _ _ HQ.out gg,HR.out,g2.out.nodes,g2.out.vars,g2.out.level,g2.out.many,g2.out.waits,g2.out.calls⟩⟩
open Go.RowKit
section
variable {P:Program}{S:World->Prop}{Q:Exit->Act->World->Prop}{R:List PanicEntry->World->Prop}{m:Nat}
def PP (R:List PanicEntry->World->Prop)(Q:Exit->Act->World->Prop):Exit->Act->World->Prop
 | .panic c,a,w=>a.defers=[]/\R c w
 | e,a,w=>Q e a w
theorem Zt6 (a:Act)(d:Option Nat)(v:Value):(a.put d v).defers=a.defers:=by cases d<;>rfl
theorem Ybr (c:List PanicEntry)(a:Act)(d:Option Nat)(v:Value)(w:World)(h:PP R Q (.panic c) (a.put d v) w):PP R Q (.panic c) a w:=⟨(Zt6 a d v).symm.trans h.1,h.2⟩
theorem Zy5 {s:Code}{a:Act}{w:World}(hR:∀ c (a:Act) w,a.defers=[]->R c w->Q (.panic c) a w)(h:s.wp P (PP R Q) a w):s.wp P Q a w :=
 Code.wp_mono (fun e a w h=>by cases e<;>first|exact h|exact hR _ _ _ h.1 h.2) h
structure Zof (P:Program)(l:List Oper)(Q:Exit->Act->World->Prop)(R:List PanicEntry->World->Prop)(S:World->Prop)(m f:Nat)(L:Array Bool)(a:Act)(w:World):Prop where
 goes:Closed l.toArray L->S w->Zlp P l.toArray (PP R Q) S m f L a w
theorem Zls {id:Nat}{a:Act}{w:World}{l:List Oper}(S:World->Prop)(R:List PanicEntry->World->Prop)(m:Nat)(hR:∀ c (a:Act) w,a.defers=[]->R c w->Q (.panic c) a w)(hm:P.follows .mixedOrders=true)(hS:S w.drew)
 (h:Zof P l Q R S m l.length (Array.replicate l.toArray.size false) a w.drew):(Code.region id l.toArray true).wp P Q a w :=
 Zy5 hR (wp_region_any hm (Zhr _ _ _ _ (h.goes (Zgt _) hS)))
theorem Ztm {l:List Oper}{f:Nat}{L:Array Bool}{a:Act}{w:World}(i:Nat)(o:Oper)(v:Value)(hi:l[i]?=some o)
 (hB:(Region.noSelect l.toArray&&(Region.ready .any l.toArray L).contains i&&Region.free .any l.toArray L i&&(decide (l.toArray.size<=m)||reaches l.toArray l.toArray.size i m))=true)
 (hy:∀ w,S w->YieldsIf P l.toArray S o v a) (h:Zof P l Q R S m f (L.setIfInBounds i true) (a.put o.dst v) w):Zof P l Q R S m (f+1) L a w:=by
 refine⟨fun hc hS=>?_⟩;simp only[Bool.and_eq_true] at hB;obtain⟨⟨⟨hs,hr⟩,hf⟩,hm⟩:=hB;have g1:l.toArray[i]?=some o:=by simpa using hi
 have g0:i∈Region.ready .any l.toArray L:=by simpa using hr
 exact Zhc g1 hs Ybr hm f L a w hc (Region.free_spec g1 hf) g0 (hy w hS) hS (h.goes (hc.set g0) hS)
theorem Zc0 {l:List Oper}{f:Nat}{L:Array Bool}{a:Act}{w:World}(i:Nat){o:Oper}(hi:l[i]?=some o)(hg:o.guard=none)
 (hB:(Region.noSelect l.toArray&&(Region.ready .any l.toArray L).contains i&&Region.free .any l.toArray L i&&(decide (l.toArray.size<=m)||reaches l.toArray l.toArray.size i m))=true)
 (h:∃ v,(∀ w,S w->(execOp a.eval o).run P w=.ok (.value v) w)/\Zof P l Q R S m f (L.setIfInBounds i true) (a.put o.dst v) w):Zof P l Q R S m (f+1) L a w:=by
 obtain⟨v,h1,h2⟩:=h;exact Ztm i o v hi hB (fun w _=>.inl ⟨by simp[Region.wanted,hg],h1⟩) h2
theorem Zhi {l:List Oper}{f:Nat}{L:Array Bool}{a:Act}{w:World}(is:List Nat)(hr:(decide (Region.ready .any l.toArray L=is) && !is.isEmpty)=true)
 (h:∀ i∈is,S w->∀ o,l[i]?=some o->Region.wanted o (yielded l.toArray a.tmps)=true/\o.wp P a w (fun a' w'=>S w'/\Zof P l Q R S m f (L.setIfInBounds i true) a' w') (PP R Q)):Zof P l Q R S m (f+1) L a w:=by
 refine⟨fun hc hS=>?_⟩;simp only[Bool.and_eq_true,decide_eq_true_eq] at hr;obtain⟨hr,g1⟩:=hr;refine⟨fun h0=>(by rw[h0] at hr;subst hr;simp at g1),fun i hi=>?_⟩;have g2:i∈is:=by rw[<- hr];exact hi
 obtain⟨_,o,ho,_⟩:=mem_ready.1 hi;obtain⟨hw,g0⟩:=h i g2 hS o (by simpa using ho);unfold wpOp;rw[ho];simp only[hw,if_true];left;refine Oper.wp_mono ?_ g0;intro a' w' ⟨h1,h2⟩;exact⟨.inr h1,h2.goes (hc.set hi) h1⟩
theorem Zv2 {l:List Oper}{L:Array Bool}{a:Act}{w:World}(hr:(Region.ready .any l.toArray L).isEmpty=true)(h:Q .normal a w):Zof P l Q R S m 0 L a w :=
 ⟨fun _ _=>⟨by simpa [List.isEmpty_iff] using hr,h⟩⟩
end
open Go.RowKit
theorem Zt2 {P:Program}{o:Oper}{a:Act}{w:World}{K:Act->World->Prop}{Q:Exit->Act->World->Prop}{f:FuncId}{args:Array Value}{R:Value->World->Prop}{R2:List PanicEntry->World->Prop}(he:(execOp a.eval o).run P w=.ok (.enter f args) w)
 (hc:Calls P f args w fun e w'=>(∃ v,e=.returned v/\R v w')\/(∃ ch,e=.panicked ch/\R2 ch w')) (h:∀ v w',R v w'->K (a.put o.dst v) w') (h2:∀ ch w',R2 ch w'->Q (.panic ch) a w'):o.wp P a w K Q:=by
 unfold Oper.wp;simp only[he,Oper.upon];refine hc.mono fun e w' hh=>?_
 rcases hh with ⟨v,h1,h3⟩|⟨ch,h1,h3⟩
 . subst h1;exact h v w' h3
 . subst h1;exact h2 ch w' h3
abbrev C3 (bf bg bh:Nat):Nat->Prop:=fun k=>k=bf\/k=bg\/k=bh
structure B3 (bf bg bh:Nat)(kf kg kh:Int)(W:World):Prop where
 f:W.cell? ⟨bf,0,none⟩=some (.int .i64 kf)
 g:W.cell? ⟨bg,0,none⟩=some (.int .i64 kg)
 h:W.cell? ⟨bh,0,none⟩=some (.int .i64 kh)
theorem B3.keep {bf bg bh:Nat}{kf kg kh:Int}(W W':World)(h:B3 bf bg bh kf kg kh W)(hk:∀ c,C3 bf bg bh c->W'.heap[c]?=W.heap[c]?):B3 bf bg bh kf kg kh W' :=
 ⟨(World.cell?_of_block (w:=W) (a:=⟨bf,0,none⟩) (hk _ (.inl rfl))).trans h.f,(World.cell?_of_block (w:=W) (a:=⟨bg,0,none⟩) (hk _ (.inr (.inl rfl)))).trans h.g,(World.cell?_of_block (w:=W) (a:=⟨bh,0,none⟩) (hk _ (.inr (.inr rfl)))).trans h.h⟩
def Zfl (F G H:BF):BF:=fun ρ=>iteB (F ρ) (G ρ) (H ρ)
def SatX (K:Law)(n:Nat)(Od:List Nat->Prop)(room:Nat)(w0:World)(mb:Nat)(fs:List (Int×BF))(nx:Int)(m:ManD):Prop:=∃ W o V,SatE K n Od room w0 mb fs nx W o m V
def Zqq (lim:Option Nat)(k:Nat)(m:ManD):Prop:=∀ M,lim=some M->m.d.pool.many<=M+k
def QF (ws0:List Ev)(lim:Option Nat)(k:Nat)(F:BF)(_:World)(m':ManD)(V':Nat->BF)(r:Nat):Prop:=ef V' r=F/\m'.waits <:+ ws0/\Zqq lim k m'
def EF (A:ManD->Prop)(k:Nat)(ws0:List Ev)(er:Int)(m m':ManD):Prop:=er=7/\A m/\m'.d.pool.many=m'.d.pool.room/\m'.d.pool.many+1<=m.d.pool.many+k/\m'.waits <:+ ws0
abbrev Zoj (ws0:List Ev)(m:ManD):Prop:=m.waits <:+ ws0
abbrev StL (ws0:List Ev)(lim:Option Nat)(m:ManD):Prop:=Zoj ws0 m/\Zqq lim 0 m
def EL (A:ManD->Prop)(k:Nat)(ws0:List Ev)(lim:Option Nat)(er:Int)(m m':ManD):Prop:=lim=none/\EF A k ws0 er m m'
def Zsu (ws0:List Ev)(lim:Option Nat)(k room:Nat):Prop:=∀ M,lim=some M->ws0=[]/\M+k<=room
theorem Zr5 {ws0:List Ev}{lim:Option Nat}{k room:Nat}{m m':ManD}(h:Zsu ws0 lim k room)(h1:Zqq lim 0 m)(h2:m'.d.pool.room+1<=m.d.pool.many+k)(h3:m'.d.pool.room=room):lim=none:=by
 cases lim with
 | none=>rfl
 | some M =>
   have:=(h M rfl).2;have:=h1 M rfl;omega
theorem Zzj {ws0 ws:List Ev}{ev:Ev}{lim:Option Nat}{k k' room:Nat}{m:ManD}(h:Zsu ws0 lim k room)(h1:ev::ws <:+ ws0):Zqq lim k' m:=fun M e=>by
 have:=(h M e).1;subst this;simp at h1
theorem Zx4 {K:Law}(hK:Zec K){n:Nat}{Od:List Nat->Prop}{room:Nat}{w0:World}{mb:Nat}{fs:List (Int×BF)}{nx:Int}(ws0:List Ev)(lim:Option Nat)(hlim:Zsu ws0 lim (2^n-1) room)(hhap:∀ ev∈ws0,HapG K n Od room w0 mb fs nx ev)(bf bg bh:Nat){kf kg kh:Int}{F G H:BF}(hf:(kf,F)∈fs)(hg:(kg,G)∈fs)(hh:(kh,H)∈fs) :
 OpG K n Od room w0 mb fs nx (C3 bf bg bh) (B3 bf bg bh kf kg kh) (StL ws0 lim) 140 #[.pointer (some ⟨bf,0,none⟩),.pointer (some ⟨bg,0,none⟩),.pointer (some ⟨bh,0,none⟩)] (QF ws0 lim (2^n-1) (Zfl F G H)) (EL (SatX K n Od room w0 mb fs nx) (2^n-1) ws0 lim):=by
 intro o W m V xb g0 hB hC g1 g7 hnx;obtain⟨f,hf,ef1⟩:=g0.find hf;obtain⟨g,hg,ef2⟩:=g0.find hg;obtain⟨h,hh,ef3⟩:=g0.find hh;have hk:=g0.ok;have g8:=g0.lt;have gd:=hk.store;obtain⟨s,hm⟩:=g0.is;have g2:Below W.heap.size W W.drew:=Zaf W 1;have g6:=hm.below g8 g2;have ga:=g8.mono g2.size;have g5:Zig o W.drew xb mb:=⟨(g2.cell (p:=⟨xb,0,none⟩) (Zaa g7.cell)).trans g7.cell,g7.own⟩;have df:=(g2.cell (p:=⟨bf,0,none⟩) (Zaa hB.f)).trans hB.f;have dg:=(g2.cell (p:=⟨bg,0,none⟩) (Zaa hB.g)).trans hB.g;have dh:=(g2.cell (p:=⟨bh,0,none⟩) (Zaa hB.h)).trans hB.h;have of:=(hC bf (.inl rfl)).2;have og:=(hC bg (.inr (.inl rfl))).2;have oh:=(hC bh (.inr (.inr rfl))).2;have gj:=Hd (Zh5 ⟨s,g6⟩ g5 hk.handles.nodup hf);have gi:=Hd (Zh5 ⟨s,g6⟩ g5 hk.handles.nodup hg);have gh:=Hd (Zh5 ⟨s,g6⟩ g5 hk.handles.nodup hh);have ge:=Hd (Zs0 hK n o W.drew xb mb m V f g h ⟨s,g6⟩ ga g5 gd (hk.handles.ok _ hf) (hk.handles.ok _ hg) (hk.handles.ok _ hh) (by rw[g0.vars];omega));obtain⟨P,hP⟩:∃ P:Ending->World->Prop,P=fun e w'=>∃ (o':Own) (m':ManD) (V':Nat->BF),Zm2 (C3 bf bg bh) K o W mb m V o' w' m' V'/\B3 bf bg bh kf kg kh w' /\
  ((∃ r:Nat,e=.returned (.int .i64 r)/\okE (Zab m'.d) r/\QF ws0 lim (2^n-1) (Zfl F G H) w' m' V' r) \/
   (∃ er:Int,e=Zeo er false ev0/\er≠0/\m'.waits=m.waits/\StL ws0 lim m'/\EL (SatX K n Od room w0 mb fs nx) (2^n-1) ws0 lim er m m') \/
   (∃ ev,e=Zeo 0 true ev/\m.waits=ev::m'.waits/\StE K n Od room w0 mb fs nx (StL ws0 lim) m'/\HapG K n Od room w0 mb fs nx ev)):=⟨_,rfl⟩
 have gf:Hid (∀ e w',Zup K n o W.drew mb m V f g h e w'->(∃ v,e=.returned v/\(w'.cell? ⟨bf,0,none⟩=some (.int .i64 kf)/\w'.cell? ⟨bg,0,none⟩=some (.int .i64 kg)/\w'.cell? ⟨bh,0,none⟩=some (.int .i64 kh))/\P (.returned v) w')\/(∃ ch,e=.panicked ch/\P (.panicked ch) w')):=by
  refine Hd ?_;subst hP;rintro e w' ⟨o',m',V',st,g9⟩;have g3:B3 bf bg bh kf kg kh w':=⟨st.chg.cell df of,st.chg.cell dg og,st.chg.cell dh oh⟩;have stx:Zm2 (C3 bf bg bh) K o W mb m V o' w' m' V':=Step.toX (K:=K) ⟨st.is,st.lt,(Chg.of_below g2 _ o).trans st.chg,st.ok,st.ext,st.hs,st.next⟩ _;have hp2:0<2^n:=Nat.pow_pos (by omega);rcases g9 with ⟨r,rfl,h1,h2,h3⟩|⟨rfl,h2,h3,h4⟩|⟨ev,rfl,h1⟩
  . refine .inl ⟨_,rfl,⟨g3.f,g3.g,g3.h⟩,o',m',V',stx,g3,.inl ⟨r,rfl,h1.okR,?_,by rw[h2];exact g1.1,fun M e=>by have:=g1.2 M e;omega⟩⟩;have e1:=(st.ext.ef (hk.handles.ok _ hf)).trans ef1;have e2:=(st.ext.ef (hk.handles.ok _ hg)).trans ef2;have e3:=(st.ext.ef (hk.handles.ok _ hh)).trans ef3;dsimp only at e1 e2 e3;funext ρ;rw[h1.val ρ,e1,e2,e3];rfl
  . have gc:lim=none:=Zr5 hlim g1.2 (by rw[<- h3];omega) (by rw[st.ext.room];exact g0.room);exact .inr ⟨_,rfl,o',m',V',stx,g3,.inr (.inl ⟨7,rfl,by omega,h2,⟨by unfold Zoj;rw[h2];exact g1.1,by subst gc;exact fun M e=>by cases e⟩,gc,rfl,⟨_,_,_,g0⟩,h3,by omega,by rw[h2];exact g1.1⟩)⟩
  .
   refine .inr ⟨_,rfl,o',m',V',stx,g3,.inr (.inr ⟨ev,rfl,h1,?_,?_⟩)⟩
   all_goals
    have g4:m.waits <:+ ws0:=g1.1;rw[h1] at g4
    first|exact fun _ _ _ _ _ e _ _=>⟨by unfold Zoj;rw[e];exact(List.suffix_cons ev m'.waits).trans g4,Zzj hlim g4⟩|exact hhap ev (g4.subset (List.mem_cons_self ..))
 rw[<- hP];clear hm gd hk g7 hB hC g1 hnx hhap hlim hK g8 hf hg hh of og oh g6 ga g5 g2 g0 hP ef1 ef2 ef3
 go_enter func140,ntmps140
 go_upto_region 1 with fail;refine Zls (fun W:World=>W.cell? ⟨bf,0,none⟩=some (.int .i64 kf)/\W.cell? ⟨bg,0,none⟩=some (.int .i64 kg)/\W.cell? ⟨bh,0,none⟩=some (.int .i64 kh)) (fun ch w'=>P (.panicked ch) w') 12 (fun c a w hd h=>⟨hd,h⟩) (by kernel_rfl) ⟨df,dg,dh⟩ ?_;refine Zc0 0 rfl rfl (by kernel_rfl) ?_;apply Exists.intro;refine⟨fun w' hw=>?_,?_⟩
 . obtain⟨q1,q2,q3⟩:=hw;go_simp;rfl
 simp only[Zae];refine Zc0 1 rfl rfl (by kernel_rfl) ?_;apply Exists.intro;refine⟨fun w' hw=>?_,?_⟩
 . obtain⟨q1,q2,q3⟩:=hw;go_simp;rfl
 simp only[Zae];refine Zc0 2 rfl rfl (by kernel_rfl) ?_;apply Exists.intro;refine⟨fun w' hw=>?_,?_⟩
 . obtain⟨q1,q2,q3⟩:=hw;go_simp;rfl
 simp only[Zae];refine Zc0 4 rfl rfl (by kernel_rfl) ?_;apply Exists.intro;refine⟨fun w' hw=>?_,?_⟩
 . obtain⟨q1,q2,q3⟩:=hw;go_simp;rfl
 simp only[Zae];refine Zc0 5 rfl rfl (by kernel_rfl) ?_;apply Exists.intro;refine⟨fun w' hw=>?_,?_⟩
 . obtain⟨q1,q2,q3⟩:=hw;go_simp;rfl
 simp only[Zae];refine Zc0 7 rfl rfl (by kernel_rfl) ?_;apply Exists.intro;refine⟨fun w' hw=>?_,?_⟩
 . obtain⟨q1,q2,q3⟩:=hw;go_simp;rfl
 simp only[Zae];refine Zc0 8 rfl rfl (by kernel_rfl) ?_;apply Exists.intro;refine⟨fun w' hw=>?_,?_⟩
 . obtain⟨q1,q2,q3⟩:=hw;go_simp;rfl
 simp only[Zae];refine Zhi [3] (by kernel_rfl) (fun i hi hS o ho=>?_);simp only[Zbf] at hi;subst hi;simp only[Za2] at ho;subst ho;refine⟨rfl,?_⟩;refine Zas (v:=.int .i64 (f:Nat)) (R:=fun w'=>W.drew=w') (by go_simp) gj.out ?_;rintro w' rfl;refine⟨⟨df,dg,dh⟩,?_⟩;simp only[Zae];refine Zhi [6] (by kernel_rfl) (fun i hi hS o ho=>?_);simp only[Zbf] at hi;subst hi;simp only[Za2] at ho;subst ho;refine⟨rfl,?_⟩;refine Zas (v:=.int .i64 (g:Nat)) (R:=fun w'=>W.drew=w') (by go_simp) gi.out ?_;rintro w' rfl;refine⟨⟨df,dg,dh⟩,?_⟩;simp only[Zae];refine Zhi [9] (by kernel_rfl) (fun i hi hS o ho=>?_);simp only[Zbf] at hi;subst hi;simp only[Za2] at ho;subst ho;refine⟨rfl,?_⟩;refine Zas (v:=.int .i64 (h:Nat)) (R:=fun w'=>W.drew=w') (by go_simp) gh.out ?_;rintro w' rfl;refine⟨⟨df,dg,dh⟩,?_⟩;simp only[Zae];refine Zhi [10] (by kernel_rfl) (fun i hi hS o ho=>?_);simp only[Zbf] at hi;subst hi;simp only[Za2] at ho;subst ho;refine⟨rfl,?_⟩;refine Zt2 (R:=fun v w'=>(w'.cell? ⟨bf,0,none⟩=some (.int .i64 kf)/\w'.cell? ⟨bg,0,none⟩=some (.int .i64 kg)/\w'.cell? ⟨bh,0,none⟩=some (.int .i64 kh))/\P (.returned v) w') (R2:=fun ch w'=>P (.panicked ch) w') (by go_simp) (ge.out.mono gf.out) ?_ ?_
 .
  rintro v w' ⟨hS,g1⟩;refine⟨hS,?_⟩;have gg:=Hd g1;clear g1;simp only[Zae];refine Zc0 11 rfl rfl (by kernel_rfl) ?_;apply Exists.intro;refine⟨fun w' hw=>?_,?_⟩
  . go_simp;rfl
  simp only[Zae];refine Zv2 (by kernel_rfl) ?_;clear hS df dg dh;go_wp2_with fail;exact gg.out
 . intro ch w' g1;exact⟨rfl,g1⟩
abbrev C1 (b:Nat):Nat->Prop:=fun k=>k=b
structure B1 (b:Nat)(v:Int)(W:World):Prop where
 c:W.cell? ⟨b,0,none⟩=some (.int .i64 v)
theorem B1.keep {b:Nat}{v:Int}(W W':World)(h:B1 b v W)(hk:∀ c,C1 b c->W'.heap[c]?=W.heap[c]?):B1 b v W':=⟨(World.cell?_of_block (w:=W) (a:=⟨b,0,none⟩) (hk _ rfl)).trans h.c⟩
theorem Zy4 {K:Law}(hK:Zec K){n:Nat}{Od:List Nat->Prop}{room:Nat}{w0:World}{mb:Nat}{fs:List (Int×BF)}{nx:Int}(ws0:List Ev)(lim:Option Nat)(hlim:Zsu ws0 lim 1 room)(hhap:∀ ev∈ws0,HapG K n Od room w0 mb fs nx ev)(v vb:Nat)(hv:v<n) :
 OpG K n Od room w0 mb fs nx (C1 vb) (B1 vb v) (StL ws0 lim) 138 #[.pointer (some ⟨vb,0,none⟩)] (QF ws0 lim 1 (varF v)) (EL (SatX K n Od room w0 mb fs nx) 1 ws0 lim):=by
 intro o W m V xb g1 hB hC g0 hx hnx;have hk:=g1.ok;have g9:=g1.lt;have g2:=hk.store;have o0:okE (Zab m.d) 0:=.inl rfl;have o1:okE (Zab m.d) 1:=.inl rfl;have g4:lvE m.d.vars.length (levN m.d) (Zab m.d) 0=m.d.vars.length:=Zk2 g2 rfl;have gd:lvE m.d.vars.length (levN m.d) (Zab m.d) 1=m.d.vars.length:=Zk2 g2 rfl;have g8:v<m.d.vars.length:=by rw[g1.vars];exact hv
 have gc:=g2.dag.lt v g8;have gf:=Hd (Zor hK g1.is g9 hx g2 v 1 0 o1 o0);have cvb:=hB.c;have ob:=(hC vb rfl).2;obtain⟨P,hP⟩:∃ P:Ending->World->Prop,P=fun e w'=>∃ (o':Own) (m':ManD) (V':Nat->BF),Zm2 (C1 vb) K o W mb m V o' w' m' V'/\B1 vb v w' /\
  ((∃ r:Nat,e=.returned (.int .i64 r)/\okE (Zab m'.d) r/\QF ws0 lim 1 (varF v) w' m' V' r) \/
   (∃ er:Int,e=Zeo er false ev0/\er≠0/\m'.waits=m.waits/\StL ws0 lim m'/\EL (SatX K n Od room w0 mb fs nx) 1 ws0 lim er m m') \/
   (∃ ev,e=Zeo 0 true ev/\m.waits=ev::m'.waits/\StE K n Od room w0 mb fs nx (StL ws0 lim) m'/\HapG K n Od room w0 mb fs nx ev)):=⟨_,rfl⟩
 have ga:Hid (∀ e w',Zih K o W mb m V v 1 0 e w'->(∃ r:Nat,e=.returned (.int .i64 r)/\P (.returned (.int .i64 r)) w')\/(∃ er evt ev,e=Zeo er evt ev/\P (Zeo er evt ev) w')):=by
  refine Hd ?_;subst hP;rintro e w' ⟨o',m',V',st,g7⟩;have g5:B1 vb v w':=⟨st.chg.cell cvb ob⟩;have stx:Zm2 (C1 vb) K o W mb m V o' w' m' V':=st.toX _;rcases g7 with ⟨ev,h1,_,_,_,_,rfl⟩|⟨h1,_,_,(⟨er,ge,hd,_,rfl⟩|⟨_,_,r,rfl,h2,h3,_,h5⟩)⟩
  .
   refine .inr ⟨0,true,ev,rfl,o',m',V',stx,g5,.inr (.inr ⟨ev,rfl,h1,?_,?_⟩)⟩
   all_goals
    have g3:m.waits <:+ ws0:=g0.1;rw[h1] at g3
    first|exact fun _ _ _ _ _ e _ _=>⟨by unfold Zoj;rw[e];exact(List.suffix_cons ev m'.waits).trans g3,Zzj hlim g3⟩|exact hhap ev (g3.subset (List.mem_cons_self ..))
  .
   refine .inr ⟨er,false,ev0,rfl,o',m',V',stx,g5,.inr (.inl ?_)⟩;rcases ge with ⟨_,h⟩|⟨_,_,_,h⟩|⟨rfl,h⟩
   . exact(h ⟨by omega,by omega⟩).elim
   . simp only[Int.toNat_natCast] at h;omega
   . have g4:lim=none:=Zr5 (m':=m') hlim g0.2 (by rw[hd];omega) (by rw[st.ext.room];exact g1.room);exact⟨7,rfl,by omega,h1,⟨by unfold Zoj;rw[h1];exact g0.1,by subst g4;exact fun M e=>by cases e⟩,g4,rfl,⟨_,_,_,g1⟩,by rw[hd];exact h,by rw[hd];omega,by rw[h1];exact g0.1⟩
  . refine .inl ⟨r,rfl,o',m',V',stx,g5,.inl ⟨r,rfl,h2,?_,by rw[h1];exact g0.1,fun M e=>by have:=g0.2 M e;omega⟩⟩;rw[h3];funext ρ;have a0:=Zi3 g2.dag.one ρ;have a1:=Zmf g2.dag.one ρ;simp only[iteF,varF,Int.toNat_natCast,a0,a1];cases ρ v<;>rfl
 rw[<- hP];clear g2 o0 o1 g4 gd gc g8 hk hx hC hK hv g9 hB hnx g0 hP ob g1 hlim
 go_enter func138,ntmps138
 go_wp2_with fail;refine gf.out.mono ?_;intro e w' hp;rcases ga.out e w' hp with ⟨r,rfl,g0⟩|⟨er,evt,ev,rfl,g0⟩
 . have g6:=Hd g0;clear hp g0;go_wp2_with fail;exact g6.out
 . have g6:=Hd g0;clear hp g0;unfold Zeo;go_wp2_with fail;exact⟨rfl,g6.out⟩
def Zkj (K:Law)(n:Nat)(Od:List Nat->Prop)(room:Nat)(w0:World)(mb:Nat)(fs:List (Int×BF))(nx:Int)(ws0:List Ev)(lim:Option Nat)(k:Nat)(F:BF)(o:Own)(w:World)(x:Ending)(w':World):Prop :=
 ∃ o' m' V',ChgX NoB o o' w w'/\m'.waits <:+ ws0/\((x=.returned (.tuple #[.int .i64 nx,.int .i64 0])/\Zqq lim k m'/\SatE K n Od room w0 mb (fs++[(nx,F)]) (nx+1) w' o' m' V') \/
  (x=.returned (.tuple #[.int .i64 0,.int .i64 7])/\lim=none/\SatE K n Od room w0 mb fs nx w' o' m' V'/\∃ m0,SatX K n Od room w0 mb fs nx m0/\m0.d.dead=0/\room+1<=m0.d.pool.many+k))
theorem StL.coll {ws0:List Ev}{lim:Option Nat}(m:ManD)(d:Zag)(h:StL ws0 lim m)(r:Zbi m.d d):StL ws0 lim { m with d:=d }:=⟨h.1,fun M e=>by have:=h.2 M e;have:=r.many;show d.pool.many<=M+0;omega⟩
theorem Zpv {K:Law}{n:Nat}{Od:List Nat->Prop}{room:Nat}{w0:World}{mb:Nat}{fs:List (Int×BF)}{nx:Int}{ws0:List Ev}{lim:Option Nat}{k:Nat}{F:BF}{o:Own}{w w1 w':World}{C:Nat->Prop}{B:World->Prop}{x:Ending}(hb:Below w.heap.size w w1)(hC:∀ c,C c->w.heap.size<=c)
 (h:Zum K n Od room w0 mb fs nx C B (QF ws0 lim k F) (EL (SatX K n Od room w0 mb fs nx) k ws0 lim) o w1 x w'):Zkj K n Od room w0 mb fs nx ws0 lim k F o w x w':=by
 obtain⟨o',m',V',_,hc,g0⟩:=h;have g1:ChgX NoB o o' w w':=(ChgX.of_below hb o NoB).trans hc (fun k hk e=>by have:=hC k e;omega);rcases g0 with ⟨r,m1,rfl,hs,⟨q1,q2,q4⟩,_,_,_,_,q5,q3,_⟩|⟨er,m0,_,rfl,hs,⟨g3,rfl,g2,h1,h2,h3⟩,h7⟩
 . exact⟨o',m',V',g1,by rw[q3];exact q2,.inl ⟨rfl,fun M e=>by rw[q5];exact q4 M e,by rw[<- q1];exact hs⟩⟩
 . refine⟨o',m',V',g1,h3,.inr ⟨rfl,g3,hs,m0,g2,h7 rfl,?_⟩⟩;have:=hs.room;omega
theorem Ztr {K:Law}(hK:Zec K){n:Nat}{Od:List Nat->Prop}{room:Nat}{w0:World}{mb:Nat}{fs:List (Int×BF)}{nx:Int}{w:World}{o:Own}{m:ManD}{V:Nat->BF}(h:SatE K n Od room w0 mb fs nx w o m V)(ws0:List Ev)(hws:m.waits <:+ ws0)(lim:Option Nat)(hlim:Zsu ws0 lim (2^n-1) room)(hl0:Zqq lim 0 m)(hhap:∀ ev∈ws0,HapG K n Od room w0 mb fs nx ev)(hn:nx<1099511627776)
 {kf kg kh:Int} {F G H:BF} (hf:(kf,F)∈fs) (hg:(kg,G)∈fs) (hh:(kh,H)∈fs) :
 Calls prog 83 #[.pointer (some ⟨mb,0,none⟩),.int .i64 kf,.int .i64 kg,.int .i64 kh] w (Zkj K n Od room w0 mb fs nx ws0 lim (2^n-1) (Zfl F G H) o w):=by
 have g1:∀ (fn:Fn) (first cap:Array Value) (w:World),(Instr.makeFunc fn first cap).run prog w=.ok (.func fn first cap) w:=fun _ _ _ _=>rfl
 obtain⟨hb,cf,cg,ch⟩:=Zz3 kf kg kh w;have hw0:=h.chg.size;have hz:(box3 kf kg kh w).heap.size=w.heap.size+3:=by simp[box3]
 have g0:Hid (Calls prog 137 #[.pointer (some ⟨mb,0,none⟩),.func (.func 140) #[] #[.pointer (some ⟨w.heap.size,0,none⟩),.pointer (some ⟨w.heap.size+1,0,none⟩),.pointer (some ⟨w.heap.size+1+1,0,none⟩)]] (box3 kf kg kh w) (Zkj K n Od room w0 mb fs nx ws0 lim (2^n-1) (Zfl F G H) o w)):=by
  refine Hd ?_;refine(Zzf hK B3.keep (fun _ _ _ _ _ h _=>h) StL.coll ?_ Zq1 (Zx4 hK ws0 lim hlim hhap w.heap.size (w.heap.size+1) (w.heap.size+1+1) hf hg hh) (h.below hb) ⟨cf,cg,ch⟩ ?_ ⟨hws,hl0⟩ hn).mono fun x w' hp=>Zpv hb ?_ hp
  . rintro c (rfl|rfl|rfl)<;>omega
  . rintro c (rfl|rfl|rfl)<;>exact⟨by omega,h.lt.none (by omega)⟩
  . rintro c (rfl|rfl|rfl)<;>omega
 have HW:Hid (_=box3 kf kg kh w):=Hd (show ((w.alloc (.cells #[.int .i64 kf] 3)).alloc (.cells #[.int .i64 kg] 3)).alloc (.cells #[.int .i64 kh] 3)=box3 kf kg kh w from rfl);clear h hK hws hhap hn hf hg hh hb cf cg ch hw0 hz hlim hl0;obtain⟨P,hP⟩:∃ P,P=Zkj K n Od room w0 mb fs nx ws0 lim (2^n-1) (Zfl F G H) o w:=⟨_,rfl⟩;rw[<- hP] at g0 ⊢;have HT:Hid (∀ x w',P x w'->∃ a b,x=.returned (.tuple #[.int .i64 a,.int .i64 b])):=by
  refine Hd ?_;subst hP;rintro x w' ⟨_,_,_,_,_,(⟨rfl,_⟩|⟨rfl,_⟩)⟩
  . exact⟨_,_,rfl⟩
  . exact⟨_,_,rfl⟩
 clear hP
 go_enter func83,ntmps83
 go_wp2_with fail;rw[HW.out];refine g0.out.mono ?_;intro x w' hd;obtain⟨a,b,rfl⟩:=HT.out x w' hd;have HD:=Hd hd;clear hd;go_wp2_with fail;exact HD.out
theorem Ztu {K:Law}(hK:Zec K){n:Nat}{Od:List Nat->Prop}{room:Nat}{w0:World}{mb:Nat}{fs:List (Int×BF)}{nx:Int}{w:World}{o:Own}{m:ManD}{V:Nat->BF}(h:SatE K n Od room w0 mb fs nx w o m V)(ws0:List Ev)(hws:m.waits <:+ ws0)(lim:Option Nat)(hlim:Zsu ws0 lim 1 room)(hl0:Zqq lim 0 m)(hhap:∀ ev∈ws0,HapG K n Od room w0 mb fs nx ev)(hn:nx<1099511627776)
 (v:Nat) (hv:v<n) :
 Calls prog 81 #[.pointer (some ⟨mb,0,none⟩),.int .i64 v] w (Zkj K n Od room w0 mb fs nx ws0 lim 1 (varF v) o w):=by
 have gc:∀ (fn:Fn) (first cap:Array Value) (w:World),(Instr.makeFunc fn first cap).run prog w=.ok (.func fn first cap) w:=fun _ _ _ _=>rfl
 obtain⟨w1,g0⟩:∃ w1,w1=w.alloc (.cells #[.int .i64 (v:Nat)] 3):=⟨_,rfl⟩;have g1:Below w.heap.size w w1:=by rw[g0];exact Zad w _
 have g5:w1.heap[w.heap.size]?=some (.cells #[.int .i64 (v:Nat)] 3 (0,0)):=by rw[g0];exact heap_alloc_new w _
 have cvb:w1.cell? ⟨w.heap.size,0,none⟩=some (.int .i64 (v:Nat)):=cell1 g5;have g8:w1.heap.size=w.heap.size+1:=by rw[g0];simp
 have hw0:=h.chg.size;obtain⟨s,g6⟩:=h.is;have g3:=g6.below h.lt g1;obtain⟨c0,c1,c2,c3,c4,c5,f0⟩:=cells6 g3.blk;obtain⟨ss,g2⟩:=g3.store;have g7:Zgl m.d v=(levN m.d v:Nat):=Zpi (by rw[g2.len,h.vars];exact hv);have g9:Hid (∀ n,Calls prog 136 #[.pointer (some ⟨s.sb,0,none⟩),.int .i64 (v:Nat)] (w1.drewN n) fun x w'=>x=.returned (.int .i64 (levN m.d v:Nat))/\w1.drewN n=w'):=by
  refine Hd fun n=>?_
  have:=Zic (g2.below (h.lt.mono g1.size) (Zaf w1 n)) v (by rw[g2.len];have:=h.ok.store.small;omega);rw[g7] at this;exact this
 obtain⟨P,hP⟩:∃ P,P=Zkj K n Od room w0 mb fs nx ws0 lim 1 (varF v) o w:=⟨_,rfl⟩;have ga:Hid (∀ q,Calls prog 137 #[.pointer (some ⟨mb,0,none⟩),.func (.func 138) #[] #[.pointer (some ⟨w.heap.size,0,none⟩)]] (w1.drewN q) P):=by
  refine Hd fun q=>?_
  rw[hP];have g4:Below w.heap.size w (w1.drewN q):=g1.trans ((Zaf w1 q).mono g1.size);refine(Zzf hK B1.keep (fun _ _ _ _ _ h _=>h) StL.coll ?_ Zq2 (Zy4 hK ws0 lim hlim hhap v w.heap.size hv) (h.below g4) ⟨cvb⟩ ?_ ⟨hws,hl0⟩ hn).mono fun x w' hp=>Zpv g4 ?_ hp
  . rintro c rfl;omega
  . rintro c rfl;exact⟨by have:=g4.size;show w.heap.size<w1.heap.size;omega,h.lt.none (by omega)⟩
  . rintro c rfl;omega
 have HT:Hid (∀ x w',P x w'->∃ a b,x=.returned (.tuple #[.int .i64 a,.int .i64 b])):=by
  refine Hd ?_;rw[hP];rintro x w' ⟨_,_,_,_,_,(⟨rfl,_⟩|⟨rfl,_⟩)⟩
  . exact⟨_,_,rfl⟩
  . exact⟨_,_,rfl⟩
 rw[<- hP];have HW:Hid (w.alloc (.cells #[.int .i64 (v:Nat)] 3)=w1):=Hd g0.symm;clear g3 g2 g7 g6 g1 g5 g0 hK hn hv hws hhap h hw0 g8 hP hlim hl0
 go_enter func81,ntmps81
 go_upto_region 3 with fail;rw[HW.out]
 go_quiet (with_reducible exact Zce (g9.out _))
 go_wp2_with fail;refine(ga.out _).mono ?_;intro x w' hd;obtain⟨a,b,rfl⟩:=HT.out x w' hd;have HD:=Hd hd;clear hd;go_wp2_with fail;exact HD.out
open Go.RowKit
section
variable {K:Law}{n:Nat}{Od:List Nat->Prop}{room:Nat}{w0 w:World}{mb:Nat}{fs:List (Int×BF)}{nx:Int}{o:Own}{m:ManD}{V:Nat->BF}
theorem SatE.eval (h:SatE K n Od room w0 mb fs nx w o m V){k:Int}{F:BF}(hk:(k,F)∈fs){v:Value}{bs:List Bool}(hbs:Zdj w v bs) :
 Calls prog 134 #[.pointer (some ⟨mb,0,none⟩),.int .i64 k,v] w fun x w'=>x=.returned (.tuple #[.bool (F (Zdc bs)),.int .i64 0])/\Below w.heap.size w w':=by
 obtain⟨f,hf,e1⟩:=h.find hk;obtain⟨a,c,rfl,h1,_⟩:=hbs;rw[<- e1];exact Zxw h.is h.lt h.ok hf a c bs h1
theorem SatE.vars_any (h:SatE K n Od room w0 mb fs nx w o m V):Calls prog 58 #[.pointer (some ⟨mb,0,none⟩)] w fun x w'=>x=.returned (.int .i64 n)/\w=w':=by
 have:=Zk3 h.is;rw[h.vars] at this;exact this
theorem SatE.handles_any (h:SatE K n Od room w0 mb fs nx w o m V):Calls prog 80 #[.pointer (some ⟨mb,0,none⟩)] w fun x w'=>x=.returned (.int .i64 (fs.length:Nat))/\w=w':=by
 have e:fs.length=m.hs.length:=by rw[<- h.hs,List.length_map]
 rw[e];exact Go.Proofs.YtkbegdkpboklpaaGreat.Yal h.is
theorem Zx8 (h:SatE K n Od room w0 mb fs nx w o m V)(q:Nat)(hq:q<=1000000) :
 Calls prog 29 #[.pointer (some ⟨mb,0,none⟩),.int .i64 q] w fun x w'=>x=.returned (.bool (decide (fs.length=q+2)))/\w=w':=by
 have HH:=Hd h.handles_any;have HF:Hid ((((fs.length:Nat):Int) == (q:Int)+2)=decide (fs.length=q+2)):=by
  refine Hd ?_
  show (((fs.length:Nat):Int) == (q:Int)+2)=_
  by_cases e:fs.length=q+2
  . rw[decide_eq_true e,beq_iff_eq];omega
  . rw[decide_eq_false e,beq_eq_false_iff_ne];omega
 clear h
 go_enter func29,ntmps29
 go_wp2_with fail;refine HH.out.mono ?_;rintro x w' ⟨rfl,rfl⟩;go_wp2_with fail;go_ret;exact⟨by rw[<- HF.out];rfl,rfl⟩
theorem Zxs (i:Nat)(hi:i<=1048576):(IntKind.u64).wrap (i:Int)=(i:Int):=by
 simp[IntKind.wrap,IntKind.bits];omega
theorem Ybk (h:SatE K n Od room w0 mb fs nx w o m V)(hn:n<=16){k:Int}{F:BF}(hk:(k,F)∈fs){v:Value}{bs:List Bool}(hbs:Zdj w v bs) :
 Calls prog 79 #[.pointer (some ⟨mb,0,none⟩),.int .i64 k,v] w fun x w'=>∃ b,x=.returned (.bool b)/\(b=true↔bs=tabB n F)/\Below w.heap.size w w':=by
 have HV:=Hd h.vars_any;have HC:=Hd (Zp4 false n hn w);have gl:Hid (∀ W,Below w.heap.size w W->∀ u cs,Zdj W u cs->Calls prog 134 #[.pointer (some ⟨mb,0,none⟩),.int .i64 k,u] W fun x w'=>x=.returned (.tuple #[.bool (F (Zdc cs)),.int .i64 0])/\Below W.heap.size W w') :=
  Hd fun W hb u cs hu=>(h.below hb).eval hk hu
 have gk:Hid (∀ i,i<=1048576->∀ W,Calls prog 135 #[.int .u64 (i:Nat),.int .i64 n] W fun x w'=>∃ v,x=.returned v/\OwnB w' W.heap.size v (Zd5 i n)/\Below W.heap.size W w'):=Hd fun i hi W=>Zws i n hi hn W
 obtain⟨a,c,rfl,gd,gh⟩:=hbs;have gm:=Hd gd;have gp:=gd.len;have hp:=Ziu (show n<=20 by omega);obtain⟨L,hL⟩:∃ L,L=2^n:=⟨_,rfl⟩;have HL:=Hd hL;rw[<- hL] at hp HC;clear h hL gd gh
 go_enter func79,ntmps79
 go_wp2_with fail;refine HV.out.mono ?_;rintro x w' ⟨rfl,rfl⟩;go_wp2_with fail;refine HC.out.mono ?_;rintro x w1 ⟨g,rfl,_,g5⟩
 by_cases g1:bs.length=L
 .
  have gi:((bs.length:Int) != (L:Int))=false:=by rw[g1];simp
  have gf:=Hd g5;clear g5 HC HV;go_wp2_with fail
  go_loopw [8,21] (fun s8 s21 wr=>∃ j:Nat,j<=L/\s21=.int .i64 j/\Below w.heap.size w wr/\Hid (∀ q,q<j->bs.getD q false=F (Zdc (Zd5 q n)))) (fun _ s21 _=>L-(intOf s21).toNat)
  case atStart=>exact⟨0,Nat.zero_le _,rfl,gf.out,Hd fun q hq=>by omega⟩
  case round =>
   obtain⟨j,hj,rfl,g2,HQ⟩:=hrel
   by_cases gj:j<L
   .
    have g0:=Hd g2;clear g2;have go:=Zxs j (by omega);have gn:(j:Int)<bs.length:=by omega
    obtain⟨b1,of1,rfl,c1⟩:=(gm.out.below g0.out).cells j (by omega);go_wp2_with fail;refine(gk.out j (by omega) _).mono ?_;rintro x w3 ⟨u,rfl,g9,gc⟩;have ge:=Hd gc;have c3:=(gc.cell (p:=⟨b1,of1+j,none⟩) (Zaa c1)).trans c1;have HU:=Hd (g9.boolsIs (by rw[Zfb];omega));clear g9 gc c1;go_wp2_with fail;refine(gl.out _ (g0.out.trans (ge.out.mono g0.out.size)) _ _ HU.out).mono ?_;rintro x w4 ⟨rfl,ga⟩;have c4:=(ga.cell (p:=⟨b1,of1+j,none⟩) (Zaa c3)).trans c3;have g7:=Hd (g0.out.trans ((ge.out.trans (ga.mono ge.out.size)).mono g0.out.size));clear ga c3;obtain⟨y1,g4⟩:∃ y,y=bs.getD j false:=⟨_,rfl⟩;obtain⟨y2,g3⟩:∃ y,y=F (Zdc (Zd5 j n)):=⟨_,rfl⟩;rw[<- g4] at c4;rw[<- g3];have gg:Hid (y2=y1->∀ q,q<j+1->bs.getD q false=F (Zdc (Zd5 q n))):=Hd fun g8 q hq=>by
     rcases Nat.lt_or_ge q j with h|h
     . exact HQ.out q h
     .
      obtain rfl:q=j:=by omega
      rw[<- g4,<- g3,g8]
    have g6:Hid (y2≠y1->bs≠tabB n F):=Hd fun g8 e=>g8 (by rw[g4,g3,e,Zso (by rw[<- HL.out];exact gj)])
    clear g4 g3;cases y1<;>cases y2
    .
     go_wp2_with fail;go_roundw
     case rel=>exact⟨j+1,by omega,by go_num,g7.out,Hd (gg.out (by simp))⟩
     case measure=>simp[intOf];omega
    . go_wp2_with fail;go_ret;exact⟨false,rfl,by simpa using g6.out (by simp),g7.out⟩
    . go_wp2_with fail;go_ret;exact⟨false,rfl,by simpa using g6.out (by simp),g7.out⟩
    .
     go_wp2_with fail;go_roundw
     case rel=>exact⟨j+1,by omega,by go_num,g7.out,Hd (gg.out (by simp))⟩
     case measure=>simp[intOf];omega
   .
    have he:j=L:=by omega
    have g0:=Hd g2;have HE:Hid (bs=tabB n F):=Hd (Ya5 (by rw[g1,HL.out]) (fun i hi=>HQ.out i (by rw[he,HL.out];exact hi)));clear g2;go_wp2_with fail;go_ret;exact⟨true,rfl,by simpa using HE.out,g0.out⟩
 .
  have gi:((bs.length:Int) != (L:Int))=true:=by simp;omega
  have gf:=Hd g5;have g6:Hid (bs≠tabB n F):=Hd fun e=>g1 (by rw[e,Zif,HL.out])
  clear g5 HC HV g1;go_wp2_with fail;go_ret;exact⟨false,rfl,by simpa using g6.out,gf.out⟩
end
structure Zrq (P:Nat->Prop)(w:World)(a:Option Addr)(us:List (List Bool)):Prop where
 len:us.length<=1000000
 cells:∀ k,k<us.length->∃ b off v,a=some ⟨b,off,none⟩/\w.cell? ⟨b,off+k,none⟩=some v/\Zdj w v (us.getD k [])/\∀ g,v.ownBlock=some g->P g
theorem Zrq.below {P:Nat->Prop}{w w':World}{a:Option Addr}{us:List (List Bool)}(h:Zrq P w a us)(hb:Below w.heap.size w w'):Zrq P w' a us :=
 ⟨h.len,fun k hk=>by
  obtain⟨b,off,v,rfl,hc,hv,hp⟩:=h.cells k hk;exact⟨b,off,v,rfl,(hb.cell (p:=⟨b,off+k,none⟩) (Zaa hc)).trans hc,hv.below hb,hp⟩⟩
structure LawR (P:Nat->Prop)(n:Nat)(fs:List (Int×BF))(w:World)(vl vx:Value)(hs:List (Int×BF)):Prop where
 sub:∀ p∈hs,p∈fs
 small:hs.length<=1000
 l:∃ a c,vl=.slice a hs.length c/\Za4 w a (hs.map Prod.fst)
 x:∃ a c,vx=.slice a hs.length c/\Zrq P w a (hs.map fun p=>tabB n p.2)
section
variable {K:Law}{n:Nat}{Od:List Nat->Prop}{room:Nat}{w0 w:World}{mb:Nat}{fs:List (Int×BF)}{nx:Int}{o:Own}{m:ManD}{V:Nat->BF}
theorem Zzz (h:SatE K n Od room w0 mb fs nx w o m V)(hn:n<=16){vl vx:Value}{hs:List (Int×BF)}{P:Nat->Prop}(hr:LawR P n fs w vl vx hs) :
 Calls prog 28 #[.pointer (some ⟨mb,0,none⟩),vl,vx] w fun x w'=>x=.returned (.bool true)/\Below w.heap.size w w':=by
 obtain⟨al,cl,rfl,hl⟩:=hr.l;obtain⟨ax,cx,rfl,hx⟩:=hr.x;have HL:=Hd hl;have HX:=Hd hx;have ga:=hr.small;have g8:Hid (∀ W,Below w.heap.size w W->∀ j v,∀ hj:j<hs.length,Zdj W v (tabB n hs[j].2)->Calls prog 79 #[.pointer (some ⟨mb,0,none⟩),.int .i64 hs[j].1,v] W fun x w'=>x=.returned (.bool true)/\Below W.heap.size W w'):=by
  refine Hd fun W hb j v hj hv=>(Ybk (h.below hb) hn (hr.sub _ (List.getElem_mem hj)) hv).mono ?_
  rintro x w' ⟨b,rfl,g6,g5⟩;rw[g6.2 rfl];exact⟨rfl,g5⟩
 clear h hr hl hx
 go_enter func28,ntmps28
 go_wp2_with fail
 go_loopw [7,10] (fun s7 s10 wr=>∃ j:Nat,j<=hs.length/\s10=.int .i64 j/\Below w.heap.size w wr) (fun _ s10 _=>hs.length-(intOf s10).toNat)
 case atStart=>exact⟨0,Nat.zero_le _,rfl,Below.refl _ _⟩
 case round =>
  obtain⟨j,hj,rfl,g1⟩:=hrel
  by_cases g2:j<hs.length
  .
   obtain⟨b1,of1,rfl,c1⟩:=(HL.out.below g1).cells j (by simpa using g2);obtain⟨b2,of2,v2,rfl,c2,g3,_⟩:=(HX.out.below g1).cells j (by simpa using g2);have e1:at0 (hs.map Prod.fst) j=hs[j].1:=by rw[Za8 (by simpa using g2)];simp
   have e2:(hs.map fun p=>tabB n p.2).getD j []=tabB n hs[j].2:=by simp[List.getD,g2]
   rw[e1] at c1;rw[e2] at g3;have g7:=Hd g3;have g0:=Hd g1;obtain⟨k1,g4⟩:∃ k1,k1=hs[j].1:=⟨_,rfl⟩;have HI:Hid (∀ W,Below w.heap.size w W->∀ v,Zdj W v (tabB n hs[j].2)->Calls prog 79 #[.pointer (some ⟨mb,0,none⟩),.int .i64 k1,v] W fun x w'=>x=.returned (.bool true)/\Below W.heap.size W w'):=by
    rw[g4];exact Hd fun W hb v hv=>g8.out W hb j v g2 hv
   rw[<- g4] at c1;clear g3 g1 e1 e2 g4;have gc:(j:Int)<(hs.length:Int):=by omega
   go_upto_region 4 with fail;refine Zam (fun W:World=>W.cell? ⟨b1,of1+j,none⟩=some (.int .i64 k1)/\W.cell? ⟨b2,of2+j,none⟩=some v2/\Hid (Below w.heap.size w W)) false 11 [(0,false),(1,false),(2,false),(3,false),(4,false),(5,false),(6,false),(7,false),(8,false),(9,true),(10,false)] (by kernel_rfl) (by kernel_rfl) ⟨c1,c2,Hd (g0.out.trans ((Zaf wr 1).mono g0.out.size))⟩ ?_;simp only[planned,Zcc]
   iterate 9
    refine Zaj rfl ?_;apply Exists.intro;refine⟨fun w' hw=>?_,?_⟩
    . obtain⟨h1,h2,_⟩:=hw;go_simp;rfl
    simp only[Zae]
   refine Zkb (v:=.bool true) rfl (by go_simp) ((HI.out wr.drew (g0.out.trans ((Zaf wr 1).mono g0.out.size)) v2 (g7.out.below (Zaf wr 1))).mono ?_) ?_
   . rintro x w' ⟨rfl,hb⟩;exact⟨rfl,(hb.cell (p:=⟨b1,of1+j,none⟩) (Zaa (w:=wr.drew) c1)).trans c1,(hb.cell (p:=⟨b2,of2+j,none⟩) (Zaa (w:=wr.drew) c2)).trans c2,Hd (g0.out.trans (((Zaf wr 1).trans (hb.mono (Zaf wr 1).size)).mono g0.out.size))⟩
   rintro w' ⟨_,_,g9⟩;simp only[Zae]
   iterate 1
    refine Zaj rfl ?_;apply Exists.intro;refine⟨fun w' hw=>?_,?_⟩
    . obtain⟨h1,h2,_⟩:=hw;go_simp;rfl
    simp only[Zae]
   refine Zb8 ?_;clear g0 c1 c2;go_wp2_with fail;go_roundw
   case rel=>exact⟨j+1,by omega,by go_num,g9.out⟩
   case measure=>simp[intOf];omega
  . have g0:=Hd g1;clear g1;go_wp2_with fail;go_ret;exact⟨rfl,g0.out⟩
end
open Go.RowKit
structure LawL (W:World)(o:Own)(base:Nat)(vl:Value)(ks:List Int):Prop where
 own:OwnC 3 W base vl (Zbh ks)
 no:∀ k,vl.ownBlock=some k->o k=none
structure LawB (W:World)(o:Own)(base:Nat)(v:Value)(bs:List Bool):Prop where
 is:Zdj W v bs
 no:∀ k,v.ownBlock=some k->base<=k/\k<W.heap.size/\o k=none/\∃ cur,W.heap[k]?=some (.cells cur 4 (0,0))
structure LawX (W:World)(o:Own)(base:Nat)(vx:Value)(us:List (List Bool)):Prop where
 ex:∃ rs:List Value,rs.length=us.length/\OwnC 55 W base vx rs/\∀ i v,rs[i]?=some v->LawB W o base v (us.getD i [])
 no:∀ k,vx.ownBlock=some k->o k=none
section
variable {W W':World}{o o':Own}{base:Nat}{vl vx v:Value}{ks:List Int}{us:List (List Bool)}{bs:List Bool}
theorem LawL.chg (h:LawL W o base vl ks)(hc:ChgX NoB o o' W W'):LawL W' o' base vl ks :=
 ⟨h.own.same fun k hk=>hc.block k (h.own.lt k hk).2 (h.no k hk) (fun e=>e),fun k hk=>hc.none' (h.own.lt k hk).2 (h.no k hk)⟩
theorem LawB.chg (h:LawB W o base v bs)(hc:ChgX NoB o o' W W'):LawB W' o' base v bs :=
 ⟨h.is.same fun k hk=>hc.block k (h.no k hk).2.1 (h.no k hk).2.2.1 (fun e=>e),fun k hk=>by
  obtain⟨h1,h2,h3,cur,h4⟩:=h.no k hk;exact⟨h1,Nat.lt_of_lt_of_le h2 hc.size,hc.none' h2 h3,cur,(hc.block k h2 h3 (fun e=>e)).trans h4⟩⟩
theorem LawX.chg (h:LawX W o base vx us)(hc:ChgX NoB o o' W W'):LawX W' o' base vx us:=by
 obtain⟨rs,h1,h2,h3⟩:=h.ex;exact⟨⟨rs,h1,h2.same fun k hk=>hc.block k (h2.lt k hk).2 (h.no k hk) (fun e=>e),fun i v hv=>(h3 i v hv).chg hc⟩,fun k hk=>hc.none' (h2.lt k hk).2 (h.no k hk)⟩
theorem Zdb (hb:Below W.heap.size W W')(o:Own):ChgX NoB o o W W':=ChgX.of_below hb o NoB
theorem LawL.typ {C:Nat->Prop}(h:LawL W o base vl ks)(hw:Wr C W W'){T:TypeId}(hT:T≠3)(hC:∀ k,C k->∃ cur,W.heap[k]?=some (.cells cur T (0,0))):LawL W' o base vl ks :=
 ⟨h.own.same fun k hk=>hw.keep k (h.own.lt k hk).2 fun e=>by
  obtain⟨c1,h1⟩:=hC k e;obtain⟨c2,h2⟩:=h.own.typed k hk;rw[h1] at h2;cases h2;exact hT rfl,h.no⟩
theorem LawB.typ {C:Nat->Prop}(h:LawB W o base v bs)(hw:Wr C W W'){T:TypeId}(hT:T≠4)(hC:∀ k,C k->∃ cur,W.heap[k]?=some (.cells cur T (0,0))):LawB W' o base v bs:=by
 have hk:∀ k,v.ownBlock=some k->W'.heap[k]?=W.heap[k]?:=fun k hk=>by
  obtain⟨h1,h2,h3,cur,h4⟩:=h.no k hk;exact hw.keep k h2 fun e=>by
   obtain⟨c1,q1⟩:=hC k e;rw[q1] at h4;cases h4;exact hT rfl
 exact⟨h.is.same hk,fun k g0=>by
  obtain⟨h1,h2,h3,cur,h4⟩:=h.no k g0;exact⟨h1,Nat.lt_of_lt_of_le h2 hw.size,h3,cur,(hk k g0).trans h4⟩⟩
theorem LawX.typ {C:Nat->Prop}(h:LawX W o base vx us)(hw:Wr C W W'){T:TypeId}(hT:T≠4)(hT2:T≠55)(hC:∀ k,C k->∃ cur,W.heap[k]?=some (.cells cur T (0,0))):LawX W' o base vx us:=by
 obtain⟨rs,h1,h2,h3⟩:=h.ex
 exact⟨⟨rs,h1,h2.same fun k hk=>hw.keep k (h2.lt k hk).2 fun e=>by
  obtain⟨c1,q1⟩:=hC k e;obtain⟨c2,q2⟩:=h2.typed k hk;rw[q1] at q2;cases q2;exact hT2 rfl,fun i v hv=>(h3 i v hv).typ hw hT hC⟩,h.no⟩
theorem Zst {v':Value}(h1:W'.os=W.os)(h2:W'.tape=W.tape)(h3:W'.output=W.output)(h4:W.heap.size<=W'.heap.size)(hk:Zda v v' W W'):Wr (fun k=>v.ownBlock=some k) W W' :=
 ⟨h1,h2,h3,h4,fun k hlt hn=>hk.keep k hlt (fun e=>hn e.symm)⟩
theorem LawL.app {v':Value}{k:Int}(h:LawL W o base vl ks)(hlt:Zal o W)(hn:OwnC 3 W' base v' (Zbh ks++[.int .i64 k]))(hk:Zda vl v' W W'):LawL W' o base v' (ks++[k]):=by
 refine⟨by rw[show Zbh (ks++[k])=Zbh ks++[.int .i64 k] by simp[Zbh]];exact hn,fun q hq=>?_⟩;rcases hk.loc with e|⟨g,e,hg⟩
 . exact h.no q (by rw[<- e];exact hq)
 . rw[e] at hq;cases hq;exact hlt.none hg
theorem LawX.app {v':Value}(h:LawX W o base vx us)(hlt:Zal o W){rs:List Value}(hrs:rs.length=us.length)(hall:∀ i v,rs[i]?=some v->LawB W o base v (us.getD i []))(hw:Wr (fun k=>vx.ownBlock=some k) W W')(hT:∀ k,vx.ownBlock=some k->∃ cur,W.heap[k]?=some (.cells cur 55 (0,0)))
 (hb:LawB W o base v bs) (hn:OwnC 55 W' base v' (rs++[v])) (hk:Zda vx v' W W'):LawX W' o base v' (us++[bs]):=by
 refine⟨⟨rs++[v],by simp[hrs],hn,fun i u hu=>?_⟩,fun q hq=>?_⟩
 .
  rcases Nat.lt_or_ge i rs.length with hi|hi
  .
   rw[List.getElem?_append_left hi] at hu;have e:(us++[bs]).getD i []=us.getD i []:=by simp[List.getD,List.getElem?_append_left (show i<us.length by omega)]
   rw[e];exact(hall i u hu).typ hw (by decide) hT
  .
   rw[List.getElem?_append_right hi] at hu;have g0:i=rs.length:=by
    have:=(List.getElem?_eq_some_iff.1 hu).1;simp at this;omega
   subst g0;simp at hu;subst hu;have e:(us++[bs]).getD rs.length []=bs:=by rw[hrs];simp[List.getD]
   rw[e];exact hb.typ hw (by decide) hT
 .
  rcases hk.loc with e|⟨g,e,hg⟩
  . exact h.no q (by rw[<- e];exact hq)
  . rw[e] at hq;cases hq;exact hlt.none hg
theorem Zx7 {n:Nat}(h:OwnB W' W.heap.size v bs)(hl:bs.length<=1000000)(hlt:Zal o W)(hb:base<=W.heap.size):LawB W' o base v bs :=
 ⟨OwnC.boolsIs h hl,fun k hk=>by
  have h1:=h.lt k hk;exact⟨by omega,h1.2,hlt.none h1.1,h.typed k hk⟩⟩
theorem Yaq {n:Nat}{fs hs:List (Int×BF)}(hl:LawL W o base vl (hs.map Prod.fst))(hx:LawX W o base vx (hs.map fun p=>tabB n p.2))(hsub:∀ p∈hs,p∈fs)(hsm:hs.length<=1000) :
 LawR (fun g=>base<=g/\g<W.heap.size/\o g=none/\∃ cur,W.heap[g]?=some (.cells cur 4 (0,0))) n fs W vl vx hs:=by
 obtain⟨rs,h1,h2,h3⟩:=hx.ex;obtain⟨al,cl,e1,_⟩:=hl.own.slice;obtain⟨ax,cx,e2,_⟩:=h2.slice;have l1:(Zbh (hs.map Prod.fst)).length=hs.length:=by simp[Zbh]
 have l2:rs.length=hs.length:=by rw[h1];simp
 rw[l1] at e1;rw[l2] at e2;refine⟨hsub,hsm,⟨al,cl,e1,⟨by simp;omega,fun k hk=>?_⟩⟩,⟨ax,cx,e2,⟨by simp;omega,fun k hk=>?_⟩⟩⟩
 .
  obtain⟨g,cap,e3,_⟩:=hl.own.shape (by rw[l1];simp at hk;omega);rw[e1] at e3;injection e3 with e3
  subst e3;have hc:=hl.own;rw[e1] at hc;refine⟨g,0,rfl,?_⟩;rw[Nat.zero_add,hc.cell k (by rw[l1];simpa using hk),Zbh,List.getElem?_map,getElem?_at0 hk];rfl
 .
  obtain⟨g,cap,e3,_⟩:=h2.shape (by rw[l2];simp at hk;omega);rw[e2] at e3;injection e3 with e3
  subst e3;have hc:=h2;rw[e2] at hc;have g0:k<rs.length:=by rw[h1];exact hk
  have hb:=h3 k rs[k] (List.getElem?_eq_getElem g0);refine⟨g,0,rs[k],rfl,?_,hb.is,hb.no⟩;rw[Nat.zero_add,hc.cell k g0,List.getElem?_eq_getElem g0]
end
open Go.RowKit
def okI (z:Int):Prop:=-9223372036854775808<=z/\z<=9223372036854775807
inductive ExT where
 | nil
 | mk (op v:Int) (n:Nat) (kid:Nat->ExT)
def sumN:Nat->(Nat->Nat)->Nat
 | 0,_=>0
 | k+1,f=>sumN k f+f k
theorem Zw9 {f:Nat->Nat}{j:Nat}:∀ (k:Nat),j<k->f j<=sumN k f
 | 0,h=>by omega
 | k+1,h=>by
   unfold sumN
   by_cases e:j=k
   . subst e;omega
   . have:=Zw9 (f:=f) k (show j<k by omega);omega
def ExT.size:ExT->Nat
 | .nil=>1
 | .mk _ _ n kid=>1+sumN n fun i=>(kid i).size
theorem ExT.size_pos (e:ExT):1<=e.size:=by cases e<;>unfold ExT.size<;>omega
instance:Inhabited ExT:=⟨.nil⟩
theorem ExT.kid_size {op v:Int}{n:Nat}{kid:Nat->ExT}{i:Nat}(h:i<n):(kid i).size<(ExT.mk op v n kid).size:=by
 have h1:(kid i).size<=sumN n fun i=>(kid i).size:=Zw9 (f:=fun i=>(kid i).size) n h
 show (kid i).size<1+sumN n fun i=>(kid i).size
 omega
def Zbe (w:World):ExT->Value->Prop
 | .nil,_=>False
 | .mk op v n kid,x=>∃ a c,x=.agg #[.int .i64 op,.int .i64 v,.slice a n c]/\okI op/\okI v/\n<=9223372036854775807 /\
  ∀ k,k<n->∃ b off x0 x1 x2,a=some ⟨b,off,none⟩/\w.cell? ⟨b,off+k*3,none⟩=some x0/\w.cell? ⟨b,off+k*3+1,none⟩=some x1/\w.cell? ⟨b,off+k*3+2,none⟩=some x2/\Zbe w (kid k) (.agg #[x0,x1,x2])
theorem Zbe.below {w w':World}(hb:Below w.heap.size w w'):∀ (e:ExT) {x:Value},Zbe w e x->Zbe w' e x
 | .nil,_,h=>by unfold Zbe at h;exact h.elim
 | .mk op v n kid,x,h=>by
   unfold Zbe at h ⊢;obtain⟨a,c,h1,h2,h3,h4,h5⟩:=h;refine⟨a,c,h1,h2,h3,h4,fun k hk=>?_⟩;obtain⟨b,off,x0,x1,x2,rfl,c0,c1,c2,hx⟩:=h5 k hk;exact⟨b,off,x0,x1,x2,rfl,(hb.cell (p:=⟨b,off+k*3,none⟩) (Zaa c0)).trans c0,(hb.cell (p:=⟨b,off+k*3+1,none⟩) (Zaa c1)).trans c1,(hb.cell (p:=⟨b,off+k*3+2,none⟩) (Zaa c2)).trans c2,Zbe.below hb (kid k) hx⟩
theorem Zpw:∀ (e:ExT) (x:Value) (q:Nat) (w:World),q<=1000->Zbe w e x ->
 Calls prog 68 #[x,.int .i64 q] w fun y w'=>(∃ r:Nat,y=.returned (.int .i64 r)/\1<=r/\r<=q+1/\(r<=q->r=e.size))/\Below w.heap.size w w'
 | .nil,x,q,w,hq,h=>by unfold Zbe at h;exact h.elim
 | .mk op v n kid,x,q,w,hq,h=>by
   unfold Zbe at h;obtain⟨a,c,rfl,h2,h3,h4,h5⟩:=h;have H5:=Hd h5;have HSZ:Hid ((ExT.mk op v n kid).size=1+sumN n fun i=>(kid i).size):=Hd rfl;have IH:Hid (∀ (i:Nat) (x:Value) (z:Int) (q:Nat) (W:World),z=(q:Int)->q<=1000->Zbe W (kid i) x->Calls prog 68 #[x,.int .i64 z] W fun y w'=>(∃ r:Nat,y=.returned (.int .i64 r)/\1<=r/\r<=q+1/\(r<=q->r=(kid i).size))/\Below W.heap.size W w') :=
    Hd fun i x z q W hz h1 h2=>by subst hz;exact Zpw (kid i) x q W h1 h2
   obtain⟨E,hE⟩:∃ E,E=ExT.mk op v n kid:=⟨_,rfl⟩;rw[<- hE] at HSZ ⊢;obtain⟨w1,hw1⟩:∃ w1,w1=w.alloc (.cells #[.int .i64 op,.int .i64 v,.slice a n c] 81):=⟨_,rfl⟩;have HW1:Hid (_=w1):=Hd hw1.symm;have HB1:Hid (Below w.heap.size w w1):=by rw[hw1];exact Hd (Zad _ _)
   have g6:w1.heap[w.heap.size]?=some (.cells #[.int .i64 op,.int .i64 v,.slice a n c] 81 (0,0)):=by rw[hw1];exact heap_alloc_new _ _
   have hs1:w1.heap.size=w.heap.size+1:=by rw[hw1];simp
   have d2:w1.cell? ⟨w.heap.size,2,none⟩=some (.slice a n c):=by rw[cell_of_row _ _ 2 _ _ _ g6];rfl
   clear h5 hE hw1 g6 h2 h3
   go_enter func68,ntmps68
   go_upto_region 1 with fail;rw[HW1.out];go_wp2_with fail
   go_loopw [5,6] (fun s5 s6 wr=>∃ i r:Nat,i<=n/\1<=r/\i<r/\r<=q+1/\s5=.int .i64 r/\s6=.int .i64 i/\Below w1.heap.size w1 wr/\Hid (r<=q->r=1+sumN i fun i=>(kid i).size)) (fun _ s6 _=>n-(intOf s6).toNat)
   case atStart=>exact⟨0,1,by omega,by omega,by omega,by omega,rfl,rfl,Below.refl _ _,Hd fun _=>rfl⟩
   case round =>
    obtain⟨i,r,hi,g8,gg,g7,rfl,rfl,g5,HR⟩:=hrel;have d2':=(g5.cell (p:=⟨w.heap.size,2,none⟩) (Zaa d2)).trans d2;have g0:=Hd g5;clear g5
    by_cases gc:i<n
    .
     by_cases gf:r<=q
     .
      obtain⟨b,off,x0,x1,x2,rfl,c0,c1,c2,hx⟩:=H5.out i gc;have g4:=HB1.out.trans (g0.out.mono HB1.out.size);have e0:=(g4.cell (p:=⟨b,off+i*3,none⟩) (Zaa c0)).trans c0;have e1:=(g4.cell (p:=⟨b,off+i*3+1,none⟩) (Zaa c1)).trans c1;have e2:=(g4.cell (p:=⟨b,off+i*3+2,none⟩) (Zaa c2)).trans c2;have HX:=Hd (hx.below g4);clear c0 c1 c2 hx g4;have g9:(i:Int)<n:=by omega
      go_wp2_with fail;refine(IH.out i _ _ (q-r) _ (by omega) (by omega) HX.out).mono ?_;rintro y w3 ⟨⟨r2,rfl,g1,g2,g3⟩,ga⟩;have ge:=Hd (g0.out.trans (ga.mono g0.out.size));have gd:Hid (r+r2<=q->r+r2=1+sumN (i+1) fun i=>(kid i).size):=Hd fun hh=>by
       have e1:=HR.out (by omega);have e2:=g3 (by omega)
       show _=1+(sumN i (fun i=>(kid i).size)+(kid i).size)
       omega
      clear ga g3 e0 e1 e2;go_wp2_with fail;go_roundw
      case rel=>exact⟨i+1,r+r2,by omega,by omega,by omega,by omega,by go_num,by go_num,ge.out,gd⟩
      case measure=>simp[intOf];omega
     .
      have g9:(i:Int)<n:=by omega
      have HF:Hid ((∃ r':Nat,Ending.returned (.int .i64 (r:Nat))=.returned (.int .i64 r')/\1<=r'/\r'<=q+1/\(r'<=q->r'=E.size))/\Below w.heap.size w wr) :=
       Hd ⟨⟨r,rfl,g8,g7,fun hh=>by omega⟩,HB1.out.trans (g0.out.mono HB1.out.size)⟩
      go_wp2_with fail;go_ret;exact HF.out
    .
     have he:i=n:=by omega
     have HF:Hid ((∃ r':Nat,Ending.returned (.int .i64 (r:Nat))=.returned (.int .i64 r')/\1<=r'/\r'<=q+1/\(r'<=q->r'=E.size))/\Below w.heap.size w wr) :=
      Hd ⟨⟨r,rfl,g8,g7,fun hh=>by rw[HSZ.out,HR.out hh,he]⟩,HB1.out.trans (g0.out.mono HB1.out.size)⟩
     have g9:¬ (i:Int)<n:=by omega
     go_wp2_with fail;go_ret;exact HF.out
end Go.Proofs.YtkbegdkpboklpaaGreat
