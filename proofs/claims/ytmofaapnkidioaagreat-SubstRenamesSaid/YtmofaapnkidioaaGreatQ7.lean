/- Several texts in one file: contracts of the program's functions and what follows from them. -/
import Derived.Test.YtmofaapnkidioaaGreatQ6
import Derived.Deep.WholeRow
import Derived.Deep.CutBlock
set_option linter.unusedSimpArgs false
set_option linter.unusedVariables false
set_option linter.unusedSectionVars false
set_option linter.unnecessarySimpa false
set_option maxRecDepth 100000
set_option maxHeartbeats 8000000
namespace Go.Proofs.YtmofaapnkidioaaGreat
open Go.RowKit
structure Zdc (w:World) (a:Option Addr) (l:List (Int×Int)):Prop where
 len:l.length<=9223372036854775807
 cells:∀ k,∀ hk:k<l.length,∃ b off,a=some ⟨b,off,none⟩/\w.cell? ⟨b,off+k*2,none⟩=some (.int .i64 l[k].1)/\w.cell? ⟨b,off+k*2+1,none⟩=some (.int .i64 l[k].2)
theorem Zdc.below {w w':World} {b0:Nat} {a:Option Addr} {l:List (Int×Int)} (h:Zdc w a l) (hb:Below w.heap.size w w'):Zdc w' a l :=
 ⟨h.len,fun k hk=>by
  obtain⟨b,off,e,c0,c1⟩:=h.cells k hk;exact⟨b,off,e,(hb.cell (p:=⟨b,off+k*2,none⟩) (Zaa c0)).trans c0,(hb.cell (p:=⟨b,off+k*2+1,none⟩) (Zaa c1)).trans c1⟩⟩
def Zbg (n:Nat) (er:Int->Int):List (Int×Int)->Int
 | []=>0
 | p::r=>if 0<=p.1/\p.1<(n:Int) then if er p.2=0 then Zbg n er r else er p.2 else 9
theorem Zk6 {n:Nat} {er:Int->Int} {l:List (Int×Int)} {i:Nat} (hi:i<l.length):Zbg n er (l.drop i)=if 0<=l[i].1/\l[i].1<(n:Int) then if er l[i].2=0 then Zbg n er (l.drop (i+1)) else er l[i].2 else 9:=by
 rw[List.drop_eq_getElem_cons hi];rfl
def Zb0 (n:Nat) (er:Int->Int) (l:List (Int×Int)):Int:=if Zbg n er l=0 then if (l.map (·.1)).Nodup then 0 else 6 else Zbg n er l
def Zdb (l:List (Int×Int)) (u:Int):Option Int:=(l.find? fun p=>p.1 == u).map (·.2)
theorem Zcm {l:List (Int×Int)} {u:Int} (h:u∉l.map (·.1)):Zdb l u=none:=by
 unfold Zdb
 rw[List.find?_eq_none.2 (fun p hp=>by
  intro e;simp only[beq_iff_eq] at e;exact h (List.mem_map.2 ⟨p,hp,e⟩))]
 rfl
theorem Zev {l:List (Int×Int)} {u:Int} (h:u∈l.map (·.1)):∃ k,Zdb l u=some k/\(u,k)∈l:=by
 unfold Zdb;cases e:l.find? (fun p=>p.1 == u) with
 | none =>
   obtain⟨p,hp,hu⟩:=List.mem_map.1 h;have:=List.find?_eq_none.1 e p hp;simp[hu] at this
 | some p =>
   have h1:=List.find?_some e;have h2:=List.mem_of_find?_eq_some e;simp only[beq_iff_eq] at h1;refine⟨p.2,rfl,?_⟩;subst h1;exact h2
theorem Znp {l:List (Int×Int)} {p:Int×Int} (h:p.1∉l.map (·.1)) (u:Int):Zdb (l++[p]) u=if u=p.1 then some p.2 else Zdb l u:=by
 unfold Zdb;rw[List.find?_append]
 by_cases e:u=p.1
 ·
  rw[if_pos e];subst e;have:=Zcm h;unfold Zdb at this;rw[Option.map_eq_none_iff] at this;rw[this];simp
 ·
  rw[if_neg e];have:(p.1 == u)=false:=by simpa using fun h=>e h.symm
  simp[List.find?,this]
structure Zhe (tb:Nat) (l:List (Int×Int)) (W:World):Prop where
 m:∃ es,Zb9 W tb (Value.int .i64) es/\∀ u:Int,getL es u=(Zdb l u).map (Value.int .i64)
theorem Zhe.below {b0 tb:Nat} {l:List (Int×Int)} {W W':World} (h:Zhe tb l W) (hb:Below b0 W W') (ht:tb<b0):Zhe tb l W':=by
 obtain⟨es,h1,h2⟩:=h.m;exact⟨es,h1.keepB (hb.block tb ht),h2⟩
theorem Ya8 (w:World):(zeroValue 3).run Tryz.prog w=.ok (.int .i64 0) w:=(zero_of_info (n:=1) (by kernel_rfl)).1 w
theorem Znq {l:List (Int×Int)} {u:Int}:(Zdb l u).isSome=decide (u∈l.map (·.1)):=by
 by_cases h:u∈l.map (·.1)
 ·
  obtain⟨k,e,_⟩:=Zev h;rw[e,decide_eq_true h];rfl
 ·
  rw[Zcm h,decide_eq_false h];rfl
theorem Zhe.look {tb:Nat} {l:List (Int×Int)} {W:World} (h:Zhe tb l W) (u:Int):(Instr.lookup 143 (.map (some tb)) (.int .i64 u) true).run Tryz.prog W=.ok (.tuple #[.int .i64 ((Zdb l u).getD 0),.bool (decide (u∈l.map (·.1)))]) W:=by
 obtain⟨es,hl,hg⟩:=h.m;have h1:=hl.lookup kI Tryz.underlying143 Ya8 u true;rw[h1,hg,if_pos rfl,Option.isSome_map,Znq];cases Zdb l u<;>rfl
structure Zrm (w:World) (n:Nat) (er:Int->Int) (l:List (Int×Int)) (x:Ending) (w':World):Prop where
 b:Below w.heap.size w w'
 bad:Zb0 n er l≠0->x=.returned (.tuple #[.map none,.int .i64 (Zb0 n er l)])
 good:Zb0 n er l=0->∃ tb,x=.returned (.tuple #[.map (some tb),.int .i64 0])/\w.heap.size<=tb/\Zhe tb l w'
section
variable {K:Law} {n:Nat} {Od:List Nat->Prop} {room:Nat} {w0:World} {fs:List (Int×BF)} {nx:Int} {o:Own} {w W:World} {mb:Nat} {m:ManD} {V:Nat->BF}
theorem Zpp (h:SatE K n Od room w0 mb fs nx w o m V) (hb:Below w.heap.size w W) {kf:Int} (hf:¬ known fs kf) (v g:Value) :
 Calls Tryz.prog 104 #[.pointer (some ⟨mb,0,none⟩),.int .i64 kf,v,g] W fun x w'=>x=.returned (.tuple #[.map none,.int .i64 8])/\Below w.heap.size w w':=by
 obtain⟨w1,hw1⟩:∃ w1,w1=W.alloc (.cells #[.int .i64 kf] 3):=⟨_,rfl⟩;have HW1:Hid (_=w1):=Hd hw1.symm;have hb1:Below w.heap.size w w1:=hb.trans (by rw[hw1];exact(Zac _ _).mono hb.size);have hz:Zay w1 (some ⟨W.heap.size,0,none⟩) [kf]:=by rw[hw1];exact Zcs W [kf] (by simp)
 have HASK:=Hd (Zea (h.below hb1) (c:=1) hz (er:=8) (.inr ⟨rfl,kf,by simp,hf⟩));have HB:=Hd hb1;clear hw1 hb1 hb hz h hf
 go_enter Tryz.func104,Tryz.ntmps104
 go_wp2_with fail;rw[HW1.out];refine HASK.out.mono ?_;rintro x w' ⟨rfl,rfl⟩;go_wp2_with fail
 go_ret2
 exact⟨rfl,HB.out⟩
theorem Zpo (h:SatE K n Od room w0 mb fs nx w o m V) (hb:Below w.heap.size w W) {kf:Int} (hf:known fs kf) {a:Option Addr} {c:Nat} {ps:List (Int×Int)} (hz:Zdc W a ps) {g:Nat} {lw:Array Value} {er:Int->Int} (eg:∀ args w,(callFunc g args).run Tryz.prog w=.ok (.enter g args) w)
 (hto:∀ W' k,Below W.heap.size W W'->Calls Tryz.prog g (#[.int .i64 k]++lw) W' fun x w'=>x=.returned (.int .i64 (er k))/\Below W'.heap.size W' w') :
 Calls Tryz.prog 104 #[.pointer (some ⟨mb,0,none⟩),.int .i64 kf,.slice a ps.length c,.func (.func g) #[] lw] W (Zrm W n er ps):=by
 have hmm:=fun t w=>Zd5 (P:=Tryz.prog) w t
 obtain⟨w1,hw1⟩:∃ w1,w1=W.alloc (.cells #[.int .i64 kf] 3):=⟨_,rfl⟩;have HW1:Hid (_=w1):=Hd hw1.symm;have hb0:Below W.heap.size W w1:=by rw[hw1];exact Zac _ _
 have hsz:=hb.size;have hb1:Below w.heap.size w w1:=hb.trans (hb0.mono hb.size);have hz1:W.heap.size<=w1.heap.size:=hb0.size;have hz':Zay w1 (some ⟨W.heap.size,0,none⟩) [kf]:=by rw[hw1];exact Zcs W [kf] (by simp)
 have HASK:=Hd (Zea (h.below hb1) (c:=1) hz' (er:=0) (.inl ⟨rfl,fun k hk=>by simp at hk;subst hk;exact hf⟩));have hzl:=hz.len;have HZ:=Hd hz;have HB0:=Hd hb0;have HB:=Hd hb;have HVAR:Hid (∀ W' (v:Int),Below W.heap.size W W'->Calls Tryz.prog 93 #[.pointer (some ⟨mb,0,none⟩),.int .i64 v] W' fun x w'=>x=.returned (.bool (decide (0<=v/\v<(n:Int))))/\W'=w'):=Hd fun W' v hb'=>Zc3 (h.below (hb.trans (hb'.mono hb.size))) v
 have HTO:=Hd hto;obtain⟨P,hP⟩:∃ P:Ending->World->Prop,P=Zrm W n er ps:=⟨_,rfl⟩;have HBAD:Hid (∀ z W',Zb0 n er ps=z->z≠0->Below W.heap.size W W'->P (.returned (.tuple #[.map none,.int .i64 z])) W'):=Hd fun z W' hz hn hb'=>by
  rw[hP];subst hz;exact⟨hb',fun _=>rfl,fun e=>absurd e hn⟩
 have HGOOD:Hid (∀ tb W',Zb0 n er ps=0->W.heap.size<=tb->Zhe tb ps W'->Below W.heap.size W W'->P (.returned (.tuple #[.map (some tb),.int .i64 0])) W'):=Hd fun tb W' hz ht hm hb'=>by
  rw[hP];exact⟨hb',fun e=>absurd hz e,fun _=>⟨tb,rfl,ht,hm⟩⟩
 have HR0:Hid (Zbg n er ps=Zbg n er (ps.drop 0)):=Hd rfl;have HR1:Hid (Zbg n er ps≠0->Zb0 n er ps=Zbg n er ps):=Hd fun e=>by unfold Zb0;rw[if_neg e]
 have HR2:Hid (Zbg n er ps=0->Zb0 n er ps=if (ps.map (·.1)).Nodup then 0 else 6):=Hd fun e=>by unfold Zb0;rw[if_pos e]
 rw[<- hP];clear hP hw1 hb1 hz1 hz' h hf hz hb hb0 hto hsz
 go_enter Tryz.func104,Tryz.ntmps104
 go_wp2_with fail;rw[HW1.out];refine HASK.out.mono ?_;rintro x w' ⟨rfl,rfl⟩;go_wp2_with fail
 go_loopw [8,9,12,13,28] (fun _ _ _ _ s28 wr=>∃ j:Nat,j<=ps.length/\s28=.int .i64 j/\Hid (Below W.heap.size W wr)/\Hid (Zbg n er ps=Zbg n er (ps.drop j))) (fun _ _ _ _ s28 _=>ps.length-(intOf s28).toNat)
 case atStart=>exact⟨0,Nat.zero_le _,rfl,HB0,HR0⟩
 case round =>
  clear HR0 HB0;obtain⟨j,hj,rfl,HBR,HE⟩:=hrel
  by_cases hlt:j<ps.length
  ·
   have hjz:(j:Int)<(ps.length:Int):=by omega
   obtain⟨b,off,rfl,ck0,ck1⟩:=HZ.out.cells j hlt;have d0:=(HBR.out.cell (p:=⟨b,off+j*2,none⟩) (Zaa ck0)).trans ck0;have d1:=(HBR.out.cell (p:=⟨b,off+j*2+1,none⟩) (Zaa ck1)).trans ck1;have HD:Hid (Zbg n er (ps.drop j)=if 0<=ps[j].1/\ps[j].1<(n:Int) then if er ps[j].2=0 then Zbg n er (ps.drop (j+1)) else er ps[j].2 else 9):=Hd (Zk6 hlt);obtain⟨p,hp⟩:∃ p,p=ps[j]:=⟨_,rfl⟩;rw[<- hp] at d0 d1 HD;obtain⟨pv,pk⟩:=p;dsimp only at d0 d1 HD;obtain⟨w2,hw2⟩:∃ w2,w2=wr.alloc (.cells #[.int .i64 pv,.int .i64 pk] 66):=⟨_,rfl⟩;have HW2:Hid (_=w2):=Hd hw2.symm;have hb2:Below W.heap.size W w2:=HBR.out.trans (by rw[hw2];exact(Zac _ _).mono HBR.out.size);have g2:w2.heap[wr.heap.size]?=some (.cells #[.int .i64 pv,.int .i64 pk] 66 (0,0)):=by rw[hw2];exact heap_alloc_new _ _
   have HB2:=Hd hb2;have e1:w2.cell? ⟨wr.heap.size,1,none⟩=some (.int .i64 pk):=by simp[World.cell?,g2]
   have HV:=HVAR.out w2 pv hb2;have HT:=Hd (HTO.out w2 pk hb2);clear hp ck0 ck1 hw2 hb2
   by_cases hok:0<=pv/\pv<(n:Int)
   ·
    rw[decide_eq_true hok] at HV;have HV2:=Hd HV;clear HV
    by_cases he:er pk=0
    ·
     have HE2:Hid (Zbg n er ps=Zbg n er (ps.drop (j+1))):=Hd (by rw[HE.out,HD.out,if_pos hok,if_pos he]);rw[he] at HT;clear hok he HD HE;go_wp2_with fail;rw[HW2.out];refine HV2.out.mono ?_;rintro x w' ⟨rfl,rfl⟩;go_wp2_with fail;refine HT.out.mono ?_;rintro x w' ⟨rfl,hb3⟩;have HB3:Hid (Below W.heap.size W w'):=Hd (HB2.out.trans (hb3.mono HB2.out.size));clear hb3 HT HB2 HV2;go_wp2_with fail;go_roundw
     case rel=>exact⟨j+1,by omega,by go_num,HB3,HE2⟩
     case measure=>simp[intOf];omega
    ·
     have HER:Hid (Zbg n er ps=er pk):=Hd (by rw[HE.out,HD.out,if_pos hok,if_neg he]);have HF:Hid (∀ w',Below w2.heap.size w2 w'->P (.returned (.tuple #[.map none,.int .i64 (er pk)])) w'):=Hd fun w' hb3=>HBAD.out _ w' (by rw[HR1.out (by rw[HER.out];exact he),HER.out]) he (HB2.out.trans (hb3.mono HB2.out.size))
     obtain⟨e,hee⟩:∃ e,e=er pk:=⟨_,rfl⟩;rw[<- hee] at HT HF he;have he2:(e == 0)=false:=by simpa using he
     clear hok hee HD HE HER;go_wp2_with fail;rw[HW2.out];refine HV2.out.mono ?_;rintro x w' ⟨rfl,rfl⟩;go_wp2_with fail;refine HT.out.mono ?_;rintro x w' ⟨rfl,hb3⟩;have HFF:=Hd (HF.out _ hb3);clear hb3 HT HB2 HV2 HF;go_wp2_with fail;exact HFF.out
   ·
    rw[decide_eq_false hok] at HV;have HV2:=Hd HV;have HER:Hid (Zbg n er ps=9):=Hd (by rw[HE.out,HD.out,if_neg hok]);have HF:=Hd (HBAD.out 9 w2 (by rw[HR1.out (by rw[HER.out];decide),HER.out]) (by decide) HB2.out);clear HV hok HD HE HER;go_wp2_with fail;rw[HW2.out];refine HV2.out.mono ?_;rintro x w' ⟨rfl,rfl⟩;go_wp2_with fail;exact HF.out
  ·
   obtain rfl:j=ps.length:=by omega
   have hjz:¬ (ps.length:Int)<(ps.length:Int):=by omega
   have HE0:Hid (Zbg n er ps=0):=Hd (by rw[HE.out,List.drop_length];rfl);have HR:Hid (Zb0 n er ps=if (ps.map (·.1)).Nodup then 0 else 6):=Hd (HR2.out HE0.out);obtain⟨w2,hw2⟩:∃ w2,w2=wr.alloc (.map #[] 0):=⟨_,rfl⟩;have HW2:Hid (_=w2):=Hd hw2.symm;have HB2:Hid (Below W.heap.size W w2):=Hd (HBR.out.trans (by rw[hw2];exact(Zac _ _).mono HBR.out.size));have HM2:Hid (Zhe wr.heap.size (ps.take 0) w2):=Hd ⟨[],by rw[hw2];exact Zgp wr (Value.int .i64),fun u=>by simp[getL,Zdf,Zdb]⟩;have HTB:Hid (W.heap.size<=wr.heap.size):=Hd HBR.out.size;obtain⟨tb,htb⟩:∃ tb,tb=wr.heap.size:=⟨_,rfl⟩;have HTE:=Hd htb;rw[<- htb] at HM2 HTB;clear hw2 HE HE0 HR1 HR2;go_wp2_with fail;rw[HW2.out];rw[<- htb];clear htb HTE HW2 HBR;go_wp2_with fail
   go_loopw [8,9,16,17,18,48] (fun _ _ _ _ _ s48 wq=>∃ j:Nat,j<=ps.length/\s48=.int .i64 j/\Hid (Below W.heap.size W wq)/\Hid (Zhe tb (ps.take j) wq)/\Hid (((ps.take j).map (·.1)).Nodup)) (fun _ _ _ _ _ s48 _=>ps.length-(intOf s48).toNat)
   case atStart=>exact⟨0,Nat.zero_le _,rfl,HB2,HM2,Hd (by simp)⟩
   case round =>
    clear HB2 HM2;obtain⟨j,hj,rfl,HBR,HM,HN⟩:=hrel
    by_cases hlt:j<ps.length
    ·
     have hjz:(j:Int)<(ps.length:Int):=by omega
     obtain⟨b,off,rfl,ck0,ck1⟩:=HZ.out.cells j hlt;have d0:=(HBR.out.cell (p:=⟨b,off+j*2,none⟩) (Zaa ck0)).trans ck0;have d1:=(HBR.out.cell (p:=⟨b,off+j*2+1,none⟩) (Zaa ck1)).trans ck1;have HTK:Hid (ps.take (j+1)=ps.take j++[ps[j]]):=Hd (List.take_succ_eq_append_getElem hlt);obtain⟨p,hp⟩:∃ p,p=ps[j]:=⟨_,rfl⟩;rw[<- hp] at d0 d1 HTK;obtain⟨pv,pk⟩:=p;dsimp only at d0 d1 HTK;obtain⟨w2,hw2⟩:∃ w2,w2=wr.alloc (.cells #[.int .i64 pv,.int .i64 pk] 66):=⟨_,rfl⟩;have hb2:Below W.heap.size W w2:=HBR.out.trans (by rw[hw2];exact(Zac _ _).mono HBR.out.size);have hm2:Zhe tb (ps.take j) w2:=HM.out.below (b0:=wr.heap.size) (by rw[hw2];exact Zac _ _) (by obtain⟨_,h,_⟩:=HM.out.m;exact h.lt);have g2:w2.heap[wr.heap.size]?=some (.cells #[.int .i64 pv,.int .i64 pk] 66 (0,0)):=by rw[hw2];exact heap_alloc_new _ _
     have e0:w2.cell? ⟨wr.heap.size,0,none⟩=some (.int .i64 pv):=by simp[World.cell?,g2]
     have e1:w2.cell? ⟨wr.heap.size,1,none⟩=some (.int .i64 pk):=by simp[World.cell?,g2]
     have hlk:=hm2.look pv;have HB2:=Hd hb2;have HM2:=Hd hm2;clear hp ck0 ck1 hb2 hm2 g2 e0 e1 HM HBR;subst hw2;obtain⟨b0,hb0⟩:∃ b0:Bool,b0=decide (pv∈(ps.take j).map (·.1)):=⟨_,rfl⟩;rw[<- hb0] at hlk;cases b0 with
     | true =>
       have hin:pv∈(ps.take j).map (·.1):=by simpa using hb0
       have HF:=Hd (HBAD.out 6 _ (by
        rw[HR.out,if_neg];intro hnd;rw[<- List.take_append_drop (j+1) ps,HTK.out] at hnd;simp only[List.append_assoc,List.map_append,List.map_cons,List.map_nil] at hnd;rw[List.nodup_append] at hnd;exact hnd.2.2 _ hin _ (by simp) rfl) (by decide) HB2.out)
       clear hb0 hin HTK HM2;go_wp2_with fail;exact HF.out
     | false =>
       have hin:pv∉(ps.take j).map (·.1):=by simpa using hb0
       have HND:Hid (((ps.take (j+1)).map (·.1)).Nodup):=Hd (by
        rw[HTK.out,List.map_append,List.nodup_append];refine⟨HN.out,by simp,?_⟩;intro a ha b hb e;simp only[List.map_cons,List.map_nil,List.mem_singleton] at hb;subst e;subst hb
        exact hin ha)
       have HIN:=Hd hin;obtain⟨es,hl,hg⟩:=HM2.out.m;have HL:=Hd hl;have HG:=Hd hg;clear hb0 hin hl hg;go_wp2_with (refine Zcu (l:=es) rfl _ _ _ rfl kI Tryz.underlying143 pv (.int .i64 pk) rfl rfl rfl HL.out ?_;intro w9 hm9 hg9);have hw9:Wr (fun q=>q=tb) _ w9:=Wr.of_grown hg9 _ (fun q hq=>by cases hq;rfl);have HB9:Hid (Below W.heap.size W w9):=Hd (HB2.out.trans (hw9.below (fun q hq=>by have:=HTB.out;omega) HB2.out.size))
       have HM9:Hid (Zhe tb (ps.take (j+1)) w9):=Hd (by
        refine⟨_,hm9,fun u=>?_⟩;rw[Zig HL.out.nodup,HG.out,HTK.out,Znp HIN.out]
        by_cases e:u=pv
        ·
         rw[if_pos e,if_pos e];rfl
        ·
         rw[if_neg e,if_neg e])
       clear hm9 hg9 hw9 HL HG HM2 HB2 HIN HTK;go_wp2_with fail;go_roundw
       case rel=>exact⟨j+1,by omega,by go_num,HB9,HM9,HND⟩
       case measure=>simp[intOf];omega
    ·
     obtain rfl:j=ps.length:=by omega
     have hjz:¬ (ps.length:Int)<(ps.length:Int):=by omega
     have HF:=Hd (HGOOD.out tb wr (by rw[HR.out];exact if_pos (by have:=HN.out;rwa [List.take_length] at this)) HTB.out (by have:=HM.out;rwa [List.take_length] at this) HBR.out);clear HM HN;go_wp2_with fail;exact HF.out
end
open Go.RowKit
theorem Zlv (args:Array Value) (w:World):(callFunc 105 args).run Tryz.prog w=.ok (.enter 105 args) w:=enters_of Tryz.func105 (by kernel_rfl) rfl args w
theorem Zlw (args:Array Value) (w:World):(callFunc 106 args).run Tryz.prog w=.ok (.enter 106 args) w:=enters_of Tryz.func106 (by kernel_rfl) rfl args w
theorem Zlt (args:Array Value) (w:World):(callFunc 107 args).run Tryz.prog w=.ok (.enter 107 args) w:=enters_of Tryz.func107 (by kernel_rfl) rfl args w
theorem Zlu (args:Array Value) (w:World):(callFunc 108 args).run Tryz.prog w=.ok (.enter 108 args) w:=enters_of Tryz.func108 (by kernel_rfl) rfl args w
structure BoxM (bm tb:Nat) (ps:List (Int×Int)) (W:World):Prop where
 c:W.cell? ⟨bm,0,none⟩=some (.map (some tb))
 m:Zhe tb ps W
theorem BoxM.keep {bm tb:Nat} {ps:List (Int×Int)} {W W':World} (h:BoxM bm tb ps W) (hk:∀ q,(q=bm\/q=tb)->W'.heap[q]?=W.heap[q]?):BoxM bm tb ps W':=by
 obtain⟨l,hl,hg⟩:=h.m.m;exact⟨(World.cell?_of_block (w:=W) (a:=⟨bm,0,none⟩) (hk _ (.inl rfl))).trans h.c,l,hl.keepB (hk _ (.inr rfl)),hg⟩
def sigR (ps:List (Int×Int)):Nat->BF:=fun u=>match Zdb ps u with
 | some k=>varF k.toNat
 | none=>varF u
def HPv (n:Nat) (ps:List (Int×Int)) (σ:Nat->BF) (m:ManD) (V:Nat->BF):Prop:=(m.hs.map Prod.fst).Nodup/\∀ u:Nat,u<n->∃ f,((Zdb ps u).getD 0,f)∈m.hs/\okE (Zab m.d) f/\((u:Int)∈ps.map (·.1)->ef V f=σ u)
section
variable {K:Law} {n:Nat} {Od:List Nat->Prop} {room:Nat} {w0:World} {fs:List (Int×BF)} {nx:Int} {o o':Own} {w w' W:World} {mb:Nat} {m m':ManD} {V V':Nat->BF} {ws0:List Ev} {k:Int} {G:BF} {ps:List (Int×Int)} {σ:Nat->BF}
theorem HPv.step (s:Step K o w mb m V o' w' m' V') (h:HPv n ps σ m V):HPv n ps σ m' V':=by
 obtain⟨h1,h2⟩:=h;refine⟨by rw[s.hs];exact h1,fun u hu=>?_⟩;obtain⟨f,h3,h4,h5⟩:=h2 u hu;exact⟨f,by rw[s.hs];exact h3,s.ext.ok h4,by rw[s.ext.ef h4];exact h5⟩
theorem HPv.of {Od:List Nat->Prop} (h:SatE K n Od room w0 mb fs nx w o m V) (h0:known fs 0) (hs:∀ (u:Nat) (k:Int),u<n->Zdb ps u=some k->(k,σ u)∈fs):HPv n ps σ m V:=by
 refine⟨h.ok.handles.nodup,fun u hu=>?_⟩
 by_cases e:(u:Int)∈ps.map (·.1)
 ·
  obtain⟨k,e1,_⟩:=Zev e;obtain⟨f,hf,e2⟩:=h.find (hs u k hu e1);exact⟨f,by rw[e1];exact hf,h.ok.handles.ok _ hf,fun _=>e2⟩
 ·
  obtain⟨F0,h0⟩:=h0;obtain⟨f,hf,_⟩:=h.find h0;exact⟨f,by rw[Zcm e];exact hf,h.ok.handles.ok _ hf,fun h=>absurd h e⟩
theorem Zw0 {bm tb:Nat} (hσ:∀ u:Nat,Zdb ps u=none->σ u=varF u):Zjj K n σ (HPv n ps σ) (BoxM bm tb ps) (fun q=>q=bm\/q=tb) 106 #[.pointer (some ⟨bm,0,none⟩)]:=by
 intro o W xb mb m V v hm hlt hx hk hn hp hbw hT hv;clear hT;obtain⟨hnd,hp⟩:=hp;obtain⟨f,hf,hok,hef⟩:=hp v hv;have HED:=Hd (Zd1 hm hx hnd hf);have cb:=hbw.c;have hlk:=hbw.m.look v;obtain⟨b,hb⟩:∃ b:Bool,b=decide ((v:Int)∈ps.map (·.1)):=⟨_,rfl⟩;obtain⟨k,hkk⟩:∃ k,k=(Zdb ps v).getD 0:=⟨_,rfl⟩;rw[<- hb,<- hkk] at hlk;rw[<- hkk] at HED
 have HF:Hid ((∃ (r:Nat) (ok:Bool) (o':Own) (m':ManD) (V':Nat->BF),Ending.returned (.tuple #[.int .i64 (f:Nat),.bool b])=.returned (.tuple #[.int .i64 r,.bool ok])/\AtC K 1 o W mb m V o' W m' V'/\okE (Zab m'.d) r/\(ok=true->ef V' r=σ v)/\(ok=false->σ v=varF v)) \/
  (∃ er evt ev,Ending.returned (.tuple #[.int .i64 (f:Nat),.bool b])=Zch er evt ev/\Zkh K 1 o W mb m V er evt ev W)):=Hd (.inl ⟨f,b,o,m,V,rfl,(AtC.refl hm hlt hk).mono (by omega),hok,fun e=>by
  rw[hb,decide_eq_true_eq] at e;exact hef e,fun e=>by
  rw[hb,decide_eq_false_iff_not] at e;exact hσ v (Zcm e)⟩)
 clear hx hk hn hf hok hef hm hnd hb hlt hv hp hbw hσ hkk
 show Calls _ _ #[_,_,_] _ _
 go_enter Tryz.func106,Tryz.ntmps106
 go_wp2_with fail;refine HED.out.mono ?_;rintro x w' ⟨rfl,rfl⟩;go_wp2_with fail
 go_ret2
 exact HF.out
theorem Zwf (hK:Zb3 K) {bm tb:Nat} (hps:∀ (u:Nat) (k:Int),Zdb ps u=some k->0<=k/\k<(n:Int)):Zjj K n (sigR ps) (fun _ _=>True) (BoxM bm tb ps) (fun q=>q=bm\/q=tb) 108 #[.pointer (some ⟨bm,0,none⟩)]:=by
 intro o W xb mb m V v hm hlt hx hk hn _ hbw hT hv;have cb:=hbw.c;have hlk:=hbw.m.look v;obtain⟨P,hP⟩:∃ P:Ending->World->Prop,P=fun e w'=>(∃ (r:Nat) (ok:Bool) (o':Own) (m':ManD) (V':Nat->BF),e=.returned (.tuple #[.int .i64 r,.bool ok])/\AtC K 1 o W mb m V o' w' m' V'/\okE (Zab m'.d) r/\(ok=true->ef V' r=sigR ps v)/\(ok=false->sigR ps v=varF v)) \/
  (∃ er evt ev,e=Zch er evt ev/\Zkh K 1 o W mb m V er evt ev w'):=⟨_,rfl⟩
 by_cases hin:(v:Int)∈ps.map (·.1)
 ·
  obtain⟨k,hkk,_⟩:=Zev hin;have hkr:=hps v k hkk;obtain⟨kn,rfl⟩:∃ kn:Nat,k=(kn:Int):=⟨k.toNat,by omega⟩;rw[hkk,decide_eq_true hin] at hlk;simp only[Option.getD_some] at hlk
  have HMK:Hid (Calls Tryz.prog 77 #[.pointer (some ⟨xb,0,none⟩),.int .i64 kn,.int .i64 1,.int .i64 0] W fun e w'=>(∃ r:Nat,e=.returned (.int .i64 r)/\P (.returned (.tuple #[.int .i64 r,.bool true])) w')\/(∃ ch,e=.panicked ch/\P (.panicked ch) w')):=Hd ((Znb hK hm hlt hx hk kn (by rw[hn];omega)).mono (by
   rintro e w' (⟨r,o',m',V',rfl,p1,p2,p3⟩|⟨er,evt,ev,rfl,hst⟩)
   ·
    refine .inl ⟨r,rfl,?_⟩;rw[hP];refine .inl ⟨r,true,o',m',V',rfl,p1,p2,fun _=>?_,fun e=>by cases e⟩;rw[p3];unfold sigR;rw[hkk];rfl
   ·
    refine .inr ⟨_,rfl,?_⟩;rw[hP];exact .inr ⟨er,evt,ev,rfl,hst⟩))
  rw[<- hP];clear hP hx hk hn hm hlt hv hbw hT hK hps hin hkk hkr
  show Calls _ _ #[_,_,_] _ _
  go_enter Tryz.func108,Tryz.ntmps108
  go_wp2_with fail;refine HMK.out.mono ?_;rintro x w' (⟨r,rfl,hp⟩|⟨ch,rfl,hp⟩)
  ·
   have HF:=Hd hp;clear hp HMK cb hlk;go_wp2_with fail;exact HF.out
  ·
   have HF:=Hd hp;clear hp HMK cb hlk;go_wp2_with fail;exact⟨rfl,HF.out⟩
 ·
  rw[Zcm hin,decide_eq_false hin] at hlk;simp only[Option.getD_none] at hlk
  have HF:Hid (P (.returned (.tuple #[.int .i64 1,.bool false])) W):=Hd (by
   rw[hP];refine .inl ⟨1,false,o,m,V,rfl,(AtC.refl hm hlt hk).mono (by omega),.inl rfl,fun e=>absurd e (by decide),fun _=>?_⟩;unfold sigR;rw[Zcm hin])
  rw[<- hP];clear hP hx hk hn hm hlt hv hbw hT hK hps hin
  show Calls _ _ #[_,_,_] _ _
  go_enter Tryz.func108,Tryz.ntmps108
  go_wp2_with fail;exact HF.out
def erR (n:Nat) (k:Int):Int:=if 0<=k/\k<(n:Int) then 0 else 9
theorem Zra (h:SatE K n Od room w0 mb fs nx w o m V) (hb:Below w.heap.size w W) {b:Nat} (hc:W.cell? ⟨b,0,none⟩=some (.pointer (some ⟨mb,0,none⟩))) (k:Int):Calls Tryz.prog 107 (#[.int .i64 k]++#[.pointer (some ⟨b,0,none⟩)]) W fun x w'=>x=.returned (.int .i64 (erR n k))/\Below W.heap.size W w':=by
 have HV:=Zc3 (h.below hb) k;have HBR:Hid (Below W.heap.size W W):=Hd (Below.refl _ _)
 show Calls _ _ #[_,_] _ _
 unfold erR
 by_cases hok:0<=k/\k<(n:Int)
 ·
  rw[decide_eq_true hok] at HV;rw[if_pos hok];have HV2:=Hd HV;clear h hb HV hok
  go_enter Tryz.func107,Tryz.ntmps107
  go_wp2_with fail;refine HV2.out.mono ?_;rintro x w' ⟨rfl,rfl⟩;go_wp2_with fail;go_ret;exact⟨rfl,HBR.out⟩
 ·
  rw[decide_eq_false hok] at HV;rw[if_neg hok];have HV2:=Hd HV;clear h hb HV hok
  go_enter Tryz.func107,Tryz.ntmps107
  go_wp2_with fail;refine HV2.out.mono ?_;rintro x w' ⟨rfl,rfl⟩;go_wp2_with fail;go_ret;exact⟨rfl,HBR.out⟩
open Classical in
noncomputable def erV (fs:List (Int×BF)) (k:Int):Int:=if known fs k then 0 else 8
theorem Zrk (h:SatE K n Od room w0 mb fs nx w o m V) (hb:Below w.heap.size w W) {b:Nat} (hc:W.cell? ⟨b,0,none⟩=some (.pointer (some ⟨mb,0,none⟩))) (k:Int):Calls Tryz.prog 105 (#[.int .i64 k]++#[.pointer (some ⟨b,0,none⟩)]) W fun x w'=>x=.returned (.int .i64 (erV fs k))/\Below W.heap.size W w':=by
 obtain⟨w1,hw1⟩:∃ w1,w1=W.alloc (.cells #[.int .i64 k] 3):=⟨_,rfl⟩;have HW1:Hid (_=w1):=Hd hw1.symm;have hb1:Below W.heap.size W w1:=by rw[hw1];exact Zac _ _
 have hz:Zay w1 (some ⟨W.heap.size,0,none⟩) [k]:=by rw[hw1];exact Zcs W [k] (by simp)
 have HASK:=Hd (Zea (h.below (hb.trans (hb1.mono hb.size))) (c:=1) hz (er:=erV fs k) (by
  unfold erV
  by_cases e:known fs k
  ·
   exact .inl ⟨if_pos e,fun q hq=>by simp at hq;subst hq;exact e⟩
  ·
   exact .inr ⟨if_neg e,k,by simp,e⟩))
 have HB:=Hd hb1;obtain⟨z,hz2⟩:∃ z,z=erV fs k:=⟨_,rfl⟩;rw[<- hz2] at HASK ⊢
 show Calls _ _ #[_,_] _ _
 clear h hb hw1 hb1 hz hz2
 go_enter Tryz.func105,Tryz.ntmps105
 go_wp2_with fail;rw[HW1.out];refine HASK.out.mono ?_;rintro x w' ⟨rfl,rfl⟩;go_wp2_with fail;go_ret;exact⟨rfl,HB.out⟩
end
open Go.RowKit
theorem Zew {n:Nat} {er:Int->Int}:∀ {l:List (Int×Int)},Zbg n er l=0->∀ p∈l,(0<=p.1/\p.1<(n:Int))/\er p.2=0
 | p::r,h,q,hq=>by
   unfold Zbg at h
   by_cases h1:0<=p.1/\p.1<(n:Int)
   ·
    rw[if_pos h1] at h
    by_cases h2:er p.2=0
    ·
     rw[if_pos h2] at h;rcases List.mem_cons.1 hq with rfl|hq
     ·
      exact⟨h1,h2⟩
     ·
      exact Zew h q hq
    ·
     rw[if_neg h2] at h;exact absurd h h2
   ·
    rw[if_neg h1] at h;exact absurd h (by decide)
theorem Zf5 {n:Nat} {er:Int->Int} {l:List (Int×Int)} (h:Zb0 n er l=0):Zbg n er l=0/\(l.map (·.1)).Nodup:=by
 unfold Zb0 at h
 by_cases e:Zbg n er l=0
 ·
  rw[if_pos e] at h
  by_cases e2:(l.map (·.1)).Nodup
  ·
   exact⟨e,e2⟩
  ·
   rw[if_neg e2] at h;cases h
 ·
  rw[if_neg e] at h;exact absurd h e
theorem Zmt {l:List (Int×Int)} {u k:Int} (h:Zdb l u=some k):(u,k)∈l:=by
 by_cases e:u∈l.map (·.1)
 ·
  obtain⟨k2,e1,e2⟩:=Zev e;rw[e1] at h;cases h;exact e2
 ·
  rw[Zcm e] at h;cases h
open Classical in
noncomputable def fnK (fs:List (Int×BF)) (k:Int):BF:=if h:known fs k then Classical.choose h else fun _=>false
theorem Zu4 {fs:List (Int×BF)} {k:Int} (h:known fs k):(k,fnK fs k)∈fs:=by
 unfold fnK;rw[dif_pos h];exact Classical.choose_spec h
noncomputable def sigV (fs:List (Int×BF)) (ps:List (Int×Int)):Nat->BF:=fun u=>match Zdb ps u with
 | some k=>fnK fs k
 | none=>varF u
section
variable {K:Law} {n:Nat} {Od:List Nat->Prop} {room:Nat} {w0:World} {fs:List (Int×BF)} {nx:Int} {o o':Own} {w w' W:World} {mb:Nat} {m m':ManD} {V V':Nat->BF} {ws0:List Ev} {k:Int} {G:BF} {ps:List (Int×Int)} {σ:Nat->BF}
theorem SatE.fn_eq (h:SatE K n Od room w0 mb fs nx w o m V) {F G:BF} (hF:(k,F)∈fs) (hG:(k,G)∈fs):F=G:=by
 obtain⟨f,hf,e1⟩:=h.find hF;obtain⟨g,hg,e2⟩:=h.find hG;have:f=g:=by
  have hnd:=h.ok.handles.nodup;obtain⟨i,hi,e3⟩:=List.getElem_of_mem hf;obtain⟨j,hj,e4⟩:=List.getElem_of_mem hg;have hij:i=j:=by
   have hp:=List.pairwise_iff_getElem.1 hnd;rcases Nat.lt_trichotomy i j with c|c|c
   ·
    have:=hp i j (by simpa using hi) (by simpa using hj) c;simp[e3,e4] at this
   ·
    exact c
   ·
    have:=hp j i (by simpa using hj) (by simpa using hi) c;simp[e3,e4] at this
  subst hij;rw[e3] at e4;exact congrArg Prod.snd e4
 rw[<- e1,<- e2,this]
theorem Ziw (h:SatE K n Od room w0 mb fs nx w o m V) {kf:Int} (hf:¬ known fs kf) (v:Value) :
 Calls Tryz.prog 38 #[.pointer (some ⟨mb,0,none⟩),.int .i64 kf,v] w fun x w'=>x=.returned (.tuple #[.int .i64 0,.int .i64 8])/\Below w.heap.size w w':=by
 have hmf:∀ (fn:Fn) (first cap:Array Value) (w:World),(Instr.makeFunc fn first cap).run Tryz.prog w=.ok (.func fn first cap) w:=fun _ _ _ _=>rfl
 obtain⟨w1,hw1⟩:∃ w1,w1=w.alloc (.cells #[.pointer (some ⟨mb,0,none⟩)] 30):=⟨_,rfl⟩;have HW1:Hid (_=w1):=Hd hw1.symm;have hb1:Below w.heap.size w w1:=by rw[hw1];exact Zac _ _
 have c1:w1.cell? ⟨w.heap.size,0,none⟩=some (.pointer (some ⟨mb,0,none⟩)):=by rw[hw1];exact cell1 (heap_alloc_new _ _)
 have HPA:=Hd (Zpp h hb1 hf v (.func (.func 107) #[] #[.pointer (some ⟨w.heap.size,0,none⟩)]));have hnb:∀ W,Below w.heap.size w W->Below w.heap.size w (W.alloc (.cells #[.map none] 143)):=fun W hb=>hb.trans ((Zac _ _).mono hb.size)
 have HNB:=Hd hnb;clear hnb hw1 hb1 h hf
 go_enter Tryz.func38,Tryz.ntmps38
 go_upto_region 1 with fail;rw[HW1.out];go_wp2_with fail;refine HPA.out.mono ?_;rintro x w' ⟨rfl,hb⟩;have HB:=Hd (HNB.out _ hb);clear hb HNB HPA;go_wp2_with fail
 go_ret2
 exact⟨rfl,HB.out⟩
theorem Ziv (hK:Zb3 K) (h:SatE K n (fun _=>True) room w0 mb fs nx w o m V) {kf:Int} {F:BF} (hf:(kf,F)∈fs) {a:Option Addr} {c:Nat} (hz:Zdc w a ps) (hst:m.waits <:+ ws0) (hn:nx<=549755813888) (hr:fs.length*2^n+(2^n-1)*(2^n+1)<=room) :
 Calls Tryz.prog 38 #[.pointer (some ⟨mb,0,none⟩),.int .i64 kf,.slice a ps.length c] w fun x w'=>(Zb0 n (erR n) ps=0->NewF K n room w0 mb fs nx ws0 (Zbd (sigR ps) F) o w x w')/\(Zb0 n (erR n) ps≠0->x=.returned (.tuple #[.int .i64 0,.int .i64 (Zb0 n (erR n) ps)])/\Below w.heap.size w w'):=by
 have hmf:∀ (fn:Fn) (first cap:Array Value) (w:World),(Instr.makeFunc fn first cap).run Tryz.prog w=.ok (.func fn first cap) w:=fun _ _ _ _=>rfl
 obtain⟨w1,hw1⟩:∃ w1,w1=w.alloc (.cells #[.pointer (some ⟨mb,0,none⟩)] 30):=⟨_,rfl⟩;have HW1:Hid (_=w1):=Hd hw1.symm;have hb1:Below w.heap.size w w1:=by rw[hw1];exact Zac _ _
 have c1:w1.cell? ⟨w.heap.size,0,none⟩=some (.pointer (some ⟨mb,0,none⟩)):=by rw[hw1];exact cell1 (heap_alloc_new _ _)
 have hz1:Zdc w1 a ps:=hz.below (b0:=0) hb1;obtain⟨z,hzz⟩:∃ z,z=Zb0 n (erR n) ps:=⟨_,rfl⟩;have HPA:=Zpo h hb1 ⟨F,hf⟩ (c:=c) hz1 Zlt (er:=erR n) (lw:=#[.pointer (some ⟨w.heap.size,0,none⟩)]) (fun W' k hb=>Zra h (hb1.trans (hb.mono hb1.size)) ((hb.cell (p:=⟨w.heap.size,0,none⟩) (Zaa c1)).trans c1) k)
 have HPB:=Hd (HPA.mono (R:=Zrm w1 n (erR n) ps) (R':=fun x w'=>Below w1.heap.size w1 w'/\(z≠0->x=.returned (.tuple #[.map none,.int .i64 z]))/\(z=0->∃ tb,x=.returned (.tuple #[.map (some tb),.int .i64 0])/\w1.heap.size<=tb/\Zhe tb ps w')) (fun x w' hp=>by
  rw[hzz];exact⟨hp.b,hp.bad,hp.good⟩))
 have hz2:=hb1.size;obtain⟨P,hP⟩:∃ P:Ending->World->Prop,P=fun x w'=>(z=0->NewF K n room w0 mb fs nx ws0 (Zbd (sigR ps) F) o w x w')/\(z≠0->x=.returned (.tuple #[.int .i64 0,.int .i64 z])/\Below w.heap.size w w'):=⟨_,rfl⟩
 have HBAD:Hid (∀ W,z≠0->Below w1.heap.size w1 W->P (.returned (.tuple #[.int .i64 0,.int .i64 z])) (W.alloc (.cells #[.map none] 143))):=Hd fun W he hb9=>by
  have hb:=hb1.trans (hb9.mono hz2);rw[hP];exact⟨fun e=>absurd e he,fun _=>⟨rfl,hb.trans ((Zac _ _).mono hb.size)⟩⟩
 have HOV:Hid (z=0->∀ W tb,Below w1.heap.size w1 W->w1.heap.size<=tb->Zhe tb ps W->Calls Tryz.prog 94 #[.pointer (some ⟨mb,0,none⟩),.int .i64 kf,.func (.func 108) #[] #[.pointer (some ⟨W.heap.size,0,none⟩)]] (W.alloc (.cells #[.map (some tb)] 143)) fun x w'=>∃ p q,x=.returned (.tuple #[.int .i64 p,.int .i64 q])/\P x w'):=Hd fun he W tb hb9 ht hm=>by
  have hb:=hb1.trans (hb9.mono hz2);have hb3:Below w.heap.size w (W.alloc (.cells #[.map (some tb)] 143)):=hb.trans ((Zac _ _).mono hb.size);have hsz:=hb.size;have htl:tb<W.heap.size:=by obtain⟨_,h,_⟩:=hm.m;exact h.lt
  obtain⟨he1,he2⟩:=Zf5 (hzz.symm.trans he);have hall:=Zew he1
  refine(Zkb (σ:=sigR ps) (HP:=fun _ _=>True) (Bw:=BoxM W.heap.size tb ps) (T:=fun q=>q=W.heap.size\/q=tb) hK (fun _ h=>h) (fun W W' hb hk=>hb.keep hk) (Zwf hK (fun u k e=>by have:=(hall _ (Zmt e)).2;unfold erR at this;by_cases c:0<=k/\k<(n:Int);exact c;rw[if_neg c] at this;cases this)) Zlu (fun _ _ _ _ _=>trivial) hf h hb3 (by
   rintro q (rfl|rfl)
   ·
    exact⟨hsz,by simp⟩
   ·
    exact⟨by omega,by rw[World.size_alloc];omega⟩) ⟨cell1 (heap_alloc_new _ _),hm.below (b0:=W.heap.size) (Zac _ _) htl⟩ hst hn hr).mono ?_
  intro x w' hx;refine⟨nx,0,hx.1,?_⟩;rw[hP];exact⟨fun _=>hx,fun e=>absurd he e⟩
 rw[<- hzz];rw[<- hP];clear hP hzz hw1 hb1 hz hz1 h hK hf hst hn hr HPA hz2
 go_enter Tryz.func38,Tryz.ntmps38
 go_upto_region 1 with fail;rw[HW1.out];go_wp2_with fail;refine HPB.out.mono ?_;rintro x w' ⟨hb,hbad,hgood⟩
 by_cases he:z=0
 ·
  obtain⟨tb,rfl,ht,hm⟩:=hgood he;have HO:=Hd (HOV.out he w' tb hb ht hm);have c2:(w'.alloc (.cells #[.map (some tb)] 143)).cell? ⟨w.heap.size,0,none⟩=some (.pointer (some ⟨mb,0,none⟩)):=(((hb.trans ((Zac w' _).mono hb.size))).cell (p:=⟨w.heap.size,0,none⟩) (Zaa c1)).trans c1;clear hb hbad hgood he ht hm HOV HPB HBAD c1;go_wp2_with fail;refine HO.out.mono ?_;rintro x w2 ⟨p,q,rfl,hp⟩;have HF:=Hd hp;clear hp HO;go_wp2_with fail;exact HF.out
 ·
  have hx:=hbad he;have HF:=Hd (HBAD.out w' he hb);have he2:(z == 0)=false:=by simpa using he
  subst hx;clear hb hbad hgood he HOV HPB HBAD c1;go_wp2_with fail;exact HF.out
theorem Zix (h:SatE K n Od room w0 mb fs nx w o m V) {kf:Int} (hf:¬ known fs kf) (v:Value) :
 Calls Tryz.prog 37 #[.pointer (some ⟨mb,0,none⟩),.int .i64 kf,v] w fun x w'=>x=.returned (.tuple #[.int .i64 0,.int .i64 8])/\Below w.heap.size w w':=by
 have hmf:∀ (fn:Fn) (first cap:Array Value) (w:World),(Instr.makeFunc fn first cap).run Tryz.prog w=.ok (.func fn first cap) w:=fun _ _ _ _=>rfl
 obtain⟨w1,hw1⟩:∃ w1,w1=w.alloc (.cells #[.pointer (some ⟨mb,0,none⟩)] 30):=⟨_,rfl⟩;have HW1:Hid (_=w1):=Hd hw1.symm;have hb1:Below w.heap.size w w1:=by rw[hw1];exact Zac _ _
 have c1:w1.cell? ⟨w.heap.size,0,none⟩=some (.pointer (some ⟨mb,0,none⟩)):=by rw[hw1];exact cell1 (heap_alloc_new _ _)
 have HPA:=Hd (Zpp h hb1 hf v (.func (.func 105) #[] #[.pointer (some ⟨w.heap.size,0,none⟩)]));have hnb:∀ W,Below w.heap.size w W->Below w.heap.size w (W.alloc (.cells #[.map none] 143)):=fun W hb=>hb.trans ((Zac _ _).mono hb.size)
 have HNB:=Hd hnb;clear hnb hw1 hb1 h hf
 go_enter Tryz.func37,Tryz.ntmps37
 go_upto_region 1 with fail;rw[HW1.out];go_wp2_with fail;refine HPA.out.mono ?_;rintro x w' ⟨rfl,hb⟩;have HB:=Hd (HNB.out _ hb);clear hb HNB HPA;go_wp2_with fail
 go_ret2
 exact⟨rfl,HB.out⟩
theorem Zoa (hK:Zb3 K) (h:SatE K n (fun _=>True) room w0 mb fs nx w o m V) (h0:known fs 0) {kf:Int} {F:BF} (hf:(kf,F)∈fs) {a:Option Addr} {c:Nat} (hz:Zdc w a ps) (hst:m.waits <:+ ws0) (hn:nx<=549755813888) (hr:fs.length*2^n+(2^n-1)*(2^n+1)<=room) :
 Calls Tryz.prog 37 #[.pointer (some ⟨mb,0,none⟩),.int .i64 kf,.slice a ps.length c] w fun x w'=>(Zb0 n (erV fs) ps=0->NewF K n room w0 mb fs nx ws0 (Zbd (sigV fs ps) F) o w x w')/\(Zb0 n (erV fs) ps≠0->x=.returned (.tuple #[.int .i64 0,.int .i64 (Zb0 n (erV fs) ps)])/\Below w.heap.size w w'):=by
 have hmf:∀ (fn:Fn) (first cap:Array Value) (w:World),(Instr.makeFunc fn first cap).run Tryz.prog w=.ok (.func fn first cap) w:=fun _ _ _ _=>rfl
 obtain⟨w1,hw1⟩:∃ w1,w1=w.alloc (.cells #[.pointer (some ⟨mb,0,none⟩)] 30):=⟨_,rfl⟩;have HW1:Hid (_=w1):=Hd hw1.symm;have hb1:Below w.heap.size w w1:=by rw[hw1];exact Zac _ _
 have c1:w1.cell? ⟨w.heap.size,0,none⟩=some (.pointer (some ⟨mb,0,none⟩)):=by rw[hw1];exact cell1 (heap_alloc_new _ _)
 have hz1:Zdc w1 a ps:=hz.below (b0:=0) hb1;obtain⟨z,hzz⟩:∃ z,z=Zb0 n (erV fs) ps:=⟨_,rfl⟩;have HPA:=Zpo h hb1 ⟨F,hf⟩ (c:=c) hz1 Zlv (er:=erV fs) (lw:=#[.pointer (some ⟨w.heap.size,0,none⟩)]) (fun W' k hb=>Zrk h (hb1.trans (hb.mono hb1.size)) ((hb.cell (p:=⟨w.heap.size,0,none⟩) (Zaa c1)).trans c1) k)
 have HPB:=Hd (HPA.mono (R:=Zrm w1 n (erV fs) ps) (R':=fun x w'=>Below w1.heap.size w1 w'/\(z≠0->x=.returned (.tuple #[.map none,.int .i64 z]))/\(z=0->∃ tb,x=.returned (.tuple #[.map (some tb),.int .i64 0])/\w1.heap.size<=tb/\Zhe tb ps w')) (fun x w' hp=>by
  rw[hzz];exact⟨hp.b,hp.bad,hp.good⟩))
 have hz2:=hb1.size;obtain⟨P,hP⟩:∃ P:Ending->World->Prop,P=fun x w'=>(z=0->NewF K n room w0 mb fs nx ws0 (Zbd (sigV fs ps) F) o w x w')/\(z≠0->x=.returned (.tuple #[.int .i64 0,.int .i64 z])/\Below w.heap.size w w'):=⟨_,rfl⟩
 have HBAD:Hid (∀ W,z≠0->Below w1.heap.size w1 W->P (.returned (.tuple #[.int .i64 0,.int .i64 z])) (W.alloc (.cells #[.map none] 143))):=Hd fun W he hb9=>by
  have hb:=hb1.trans (hb9.mono hz2);rw[hP];exact⟨fun e=>absurd e he,fun _=>⟨rfl,hb.trans ((Zac _ _).mono hb.size)⟩⟩
 have HOV:Hid (z=0->∀ W tb,Below w1.heap.size w1 W->w1.heap.size<=tb->Zhe tb ps W->Calls Tryz.prog 94 #[.pointer (some ⟨mb,0,none⟩),.int .i64 kf,.func (.func 106) #[] #[.pointer (some ⟨W.heap.size,0,none⟩)]] (W.alloc (.cells #[.map (some tb)] 143)) fun x w'=>∃ p q,x=.returned (.tuple #[.int .i64 p,.int .i64 q])/\P x w'):=Hd fun he W tb hb9 ht hm=>by
  have hb:=hb1.trans (hb9.mono hz2);have hb3:Below w.heap.size w (W.alloc (.cells #[.map (some tb)] 143)):=hb.trans ((Zac _ _).mono hb.size);have hsz:=hb.size;have htl:tb<W.heap.size:=by obtain⟨_,h,_⟩:=hm.m;exact h.lt
  obtain⟨he1,he2⟩:=Zf5 (hzz.symm.trans he);have hall:=Zew he1
  refine(Zkb (σ:=sigV fs ps) (HP:=HPv n ps (sigV fs ps)) (Bw:=BoxM W.heap.size tb ps) (T:=fun q=>q=W.heap.size\/q=tb) hK HPv.step (fun W W' hb hk=>hb.keep hk) (Zw0 (fun u e=>by unfold sigV;rw[e])) Zlw (fun _ _ _ _ hs=>HPv.of hs h0 (fun u k _ e=>by have:=(hall _ (Zmt e)).2;unfold erV at this;by_cases c:known fs k;(unfold sigV;rw[e];exact Zu4 c);rw[if_neg c] at this;cases this)) hf h hb3 (by
   rintro q (rfl|rfl)
   ·
    exact⟨hsz,by simp⟩
   ·
    exact⟨by omega,by rw[World.size_alloc];omega⟩) ⟨cell1 (heap_alloc_new _ _),hm.below (b0:=W.heap.size) (Zac _ _) htl⟩ hst hn hr).mono ?_
  intro x w' hx;refine⟨nx,0,hx.1,?_⟩;rw[hP];exact⟨fun _=>hx,fun e=>absurd he e⟩
 rw[<- hzz];rw[<- hP];clear hP hzz hw1 hb1 hz hz1 h hK hf hst hn hr HPA hz2
 go_enter Tryz.func37,Tryz.ntmps37
 go_upto_region 1 with fail;rw[HW1.out];go_wp2_with fail;refine HPB.out.mono ?_;rintro x w' ⟨hb,hbad,hgood⟩
 by_cases he:z=0
 ·
  obtain⟨tb,rfl,ht,hm⟩:=hgood he;have HO:=Hd (HOV.out he w' tb hb ht hm);have c2:(w'.alloc (.cells #[.map (some tb)] 143)).cell? ⟨w.heap.size,0,none⟩=some (.pointer (some ⟨mb,0,none⟩)):=(((hb.trans ((Zac w' _).mono hb.size))).cell (p:=⟨w.heap.size,0,none⟩) (Zaa c1)).trans c1;clear hb hbad hgood he ht hm HOV HPB HBAD c1;go_wp2_with fail;refine HO.out.mono ?_;rintro x w2 ⟨p,q,rfl,hp⟩;have HF:=Hd hp;clear hp HO;go_wp2_with fail;exact HF.out
 ·
  have hx:=hbad he;have HF:=Hd (HBAD.out w' he hb);have he2:(z == 0)=false:=by simpa using he
  subst hx;clear hb hbad hgood he HOV HPB HBAD c1;go_wp2_with fail;exact HF.out
end
open Go.RowKit
theorem Zvg {op:Int} (h:0<=(Zeu op).1):1<=op/\op<=10/\(Zeu op).2<=64:=by
 unfold Zeu at h ⊢;split
 ·
  rename_i h1;exact⟨by omega,by omega,by simp⟩
 ·
  split
  ·
   rename_i h1;exact⟨by omega,by omega,by simp⟩
  ·
   split
   ·
    rename_i h1;exact⟨by omega,by omega,by simp⟩
   ·
    split
    ·
     rename_i h1;exact⟨by omega,by omega,by simp⟩
    ·
     split
     ·
      rename_i h1;exact⟨by omega,by omega,by simp⟩
     ·
      exfalso;revert h;simp_all
theorem Zmw (f:Nat->Bool) (i:Nat):(List.range (i+1)).map f=(List.range i).map f++[f i]:=by simp[List.range_succ]
theorem Zhq (l:List Bool) (b:Bool):Zbx (l++[b])=Zbx l++[.bool b]:=by simp[Zbx]
theorem tmod2 (c:Nat):((c:Int).tmod 2 == 1)=decide (c%2=1):=by
 have e1:Int.tmod (c:Int) 2=((c%2:Nat):Int):=by rw[Int.tmod_eq_emod_of_nonneg (by omega)];rfl
 rw[e1]
 by_cases h:c%2=1
 ·
  rw[h];rfl
 ·
  have:((c%2:Nat):Int)≠1:=by omega
  rw[beq_eq_false_iff_ne.2 this,decide_eq_false h]
theorem Zq5 (a b:Nat):(((a:Nat):Int) == (b:Int))=decide (a=b):=by
 by_cases h:a=b
 ·
  subst h;simp
 ·
  have:(a:Int)≠b:=by omega
  rw[beq_eq_false_iff_ne.2 this,decide_eq_false h]
theorem Zln (ls:List Bool) (al:Option Addr) (cl:Nat):∀ (e:ExT) (x:Value) (w:World),Zsf e->Zbb w e x->Zbt w al ls ->
 Calls Tryz.prog 128 #[x,.slice al ls.length cl] w fun y w'=>y=.returned (.bool (fnT e (Zb1 ls)))/\Below w.heap.size w w'
 | .nil,x,w,hv,h,_=>by unfold Zbb at h;exact h.elim
 | .mk op v n kid,x,w,hval,h,hls=>by
   unfold Zbb at h;obtain⟨a,c,rfl,h2,h3,h4,h5⟩:=h;obtain⟨v1,v2,v3,v4,v5,v6⟩:=hval;obtain⟨k1,k2,k3⟩:=Zvg v1;have hn64:n<=64:=by omega
   have H5:=Hd h5;have H6:=Hd v6;have HLS:=Hd hls;have hll:=hls.len;have HE:Hid (fnT (ExT.mk op v n kid) (Zb1 ls)=if op=3 then Zb1 ls v.toNat else opB op n fun i=>fnT (kid i) (Zb1 ls)):=Hd rfl;have IH:Hid (∀ (i:Nat) (x:Value) (W:World),i<n->Zbb W (kid i) x->Zbt W al ls->Calls Tryz.prog 128 #[x,.slice al ls.length cl] W fun y w'=>y=.returned (.bool (fnT (kid i) (Zb1 ls)))/\Below W.heap.size W w') :=
    Hd fun i x W hi h1 h2=>Zln ls al cl (kid i) x W (H6.out i hi) h1 h2
   obtain⟨B,hB⟩:∃ B,B=fnT (ExT.mk op v n kid) (Zb1 ls):=⟨_,rfl⟩;obtain⟨f,hf⟩:∃ f:Nat->Bool,f=fun i=>fnT (kid i) (Zb1 ls):=⟨_,rfl⟩
   have HFI:Hid (∀ i,fnT (kid i) (Zb1 ls)=f i):=Hd fun i=>by rw[hf]
   rw[<- hB] at HE ⊢;rw[<- hf] at HE;have hl2:op=8\/op=9->n=2:=by rintro(rfl|rfl)<;>(simp[Zeu] at v4 v5;omega)
   have hl3:op=10->n=3:=by rintro rfl;simp[Zeu] at v4 v5;omega
   have hl4:op=4->n=1:=by rintro rfl;simp[Zeu] at v4 v5;omega
   obtain⟨w1,hw1⟩:∃ w1,w1=w.alloc (.cells #[.int .i64 op,.int .i64 v,.slice a n c] 86):=⟨_,rfl⟩;have HW1:Hid (_=w1):=Hd hw1.symm;have HB1:Hid (Below w.heap.size w w1):=by rw[hw1];exact Hd (Zac _ _)
   have hblk:w1.heap[w.heap.size]?=some (.cells #[.int .i64 op,.int .i64 v,.slice a n c] 86 (0,0)):=by rw[hw1];exact heap_alloc_new _ _
   have d0:w1.cell? ⟨w.heap.size,0,none⟩=some (.int .i64 op):=by rw[cell_of_row _ _ 0 _ _ _ hblk];rfl
   have d1:w1.cell? ⟨w.heap.size,1,none⟩=some (.int .i64 v):=by rw[cell_of_row _ _ 1 _ _ _ hblk];rfl
   have d2:w1.cell? ⟨w.heap.size,2,none⟩=some (.slice a n c):=by rw[cell_of_row _ _ 2 _ _ _ hblk];rfl
   unfold okI at h2 h3;obtain⟨w2,hw2⟩:∃ w2,w2=w1.alloc (.cells #[] 4):=⟨_,rfl⟩;have HW2:Hid (_=w2):=Hd hw2.symm;have HB2:Hid (Below w1.heap.size w1 w2):=by rw[hw2];exact Hd (Zac _ _)
   have HOWN:Hid (OwnB w2 w1.heap.size (.slice (some ⟨w1.heap.size,0,none⟩) 0 0) []):=by rw[hw2];exact Hd (Zf4 _ _ _ (Nat.le_refl _))
   have hs1:w1.heap.size=w.heap.size+1:=by rw[hw1];simp
   rw[hs1] at HOWN;clear h5 hw1 hw2 hblk hf hB v1 v4 v5 v6 hls
   go_enter Tryz.func128,Tryz.ntmps128
   go_upto_region 1 with fail;rw[HW1.out];go_upto_region 3 with fail;rw[HW2.out];have hs2:w1.heap.size<=w2.heap.size:=HB2.out.size;have d0':=(HB2.out.cell (p:=⟨w.heap.size,0,none⟩) (Zaa d0)).trans d0;have d1':=(HB2.out.cell (p:=⟨w.heap.size,1,none⟩) (Zaa d1)).trans d1;have d2':=(HB2.out.cell (p:=⟨w.heap.size,2,none⟩) (Zaa d2)).trans d2;go_wp2_with fail
   go_loopw [5,6,7,8] (fun s5 s6 s7 s8 wr=>∃ i k:Nat,i<=n/\k<=i/\s5=.int .i64 k/\s7=.int .i64 i/\Hid (k=cntT i f)/\Below w1.heap.size w1 wr/\OwnB wr w1.heap.size s6 ((List.range i).map f)/\w1.heap.size<=wr.heap.size) (fun _ _ s7 _ _=>n-(intOf s7).toNat)
   case atStart=>exact⟨0,0,Nat.zero_le _,Nat.le_refl _,rfl,rfl,Hd rfl,HB2.out,by rw[hs1];exact HOWN.out,hs2⟩
   case round =>
    obtain⟨i,k,hi,hki,rfl,rfl,HK,hbel,hown,hsz⟩:=hrel;have e0:=(hbel.cell (p:=⟨w.heap.size,0,none⟩) (Zaa d0)).trans d0;have e1:=(hbel.cell (p:=⟨w.heap.size,1,none⟩) (Zaa d1)).trans d1;have e2:=(hbel.cell (p:=⟨w.heap.size,2,none⟩) (Zaa d2)).trans d2;have HBEL:=Hd hbel;have HOW:=Hd hown;clear hbel d0' d1' d2'
    by_cases hlt:i<n
    ·
     clear hown;obtain⟨b,off,x0,x1,x2,rfl,c0,c1,c2,hx⟩:=H5.out i hlt;have hb0:=HB1.out.trans (HBEL.out.mono HB1.out.size);have q0:=(hb0.cell (p:=⟨b,off+i*3,none⟩) (Zaa c0)).trans c0;have q1:=(hb0.cell (p:=⟨b,off+i*3+1,none⟩) (Zaa c1)).trans c1;have q2:=(hb0.cell (p:=⟨b,off+i*3+2,none⟩) (Zaa c2)).trans c2;have HX:=Hd (hx.below hb0);have HL2:=Hd (HLS.out.below hb0);have hiz:(i:Int)<n:=by omega
     have HK1:Hid (∀ y,f i=y->k+(if y then 1 else 0)=cntT (i+1) f):=Hd fun y hy=>by rw[<- hy,HK.out];rfl
     clear c0 c1 c2 hx hb0;go_wp2_with fail;refine(IH.out i _ _ (by omega) HX.out HL2.out).mono ?_;rintro y w3 ⟨rfl,hb3⟩;have HB3:=Hd hb3;clear hb3;go_upto_region 7 with fail;rw[HFI.out];obtain⟨y,hy⟩:∃ y,f i=y:=⟨_,rfl⟩;rw[hy];have HKY:=Hd (HK1.out y hy);have HOW3:=Hd (HOW.out.below HB3.out);have hsz3:w1.heap.size<=w3.heap.size:=Nat.le_trans hsz HB3.out.size;have HBEL3:=Hd (HBEL.out.trans (HB3.out.mono HBEL.out.size));have HYY:Hid (Zbx ((List.range (i+1)).map f)=Zbx ((List.range i).map f)++[.bool y]):=Hd (by rw[Zmw,Zhq,hy]);clear HK1 hy q0 q1 q2 e0 e1 e2;go_upto_region 8 with (at_builtin;refine Zc5 Ze8 _ rfl _ _ rfl w1.heap.size _ (Zbx ((List.range i).map f)) _ rfl rfl rfl rfl rfl (by exact HOW3.out) (by simp[Zbx];omega) hsz3 ?_;intro v4 w4 hown4 q1 q2 q3 q4 hk4)
     have HB4:=Hd (Zh7 HBEL3.out HOW3.out q1 q2 q3 q4 hk4 hsz3);have HOW4:=Hd hown4;have hsz4:w1.heap.size<=w4.heap.size:=by omega
     clear hown4 q1 q2 q3 q4 hk4;cases y with
     | true =>
       go_wp2_with fail;go_roundw
       case rel=>exact⟨i+1,k+1,by omega,by omega,by go_num,by go_num,Hd HKY.out,HB4.out,by unfold OwnB;rw[HYY.out];exact HOW4.out,hsz4⟩
       case measure=>simp[intOf];omega
     | false =>
       go_wp2_with fail;go_roundw
       case rel=>exact⟨i+1,k,by omega,by omega,by go_num,by go_num,Hd HKY.out,HB4.out,by unfold OwnB;rw[HYY.out];exact HOW4.out,hsz4⟩
       case measure=>simp[intOf];omega
    ·
     have he:i=n:=by omega
     subst he;have hiz:¬ (i:Int)<i:=by omega
     have HF:Hid (∀ b:Bool,b=B->Ending.returned (.bool b)=.returned (.bool B)/\Below w.heap.size w wr):=Hd fun b hb=>⟨by rw[hb],HB1.out.trans (HBEL.out.mono HB1.out.size)⟩
     have hkids:0<i->∃ g cap,u6=.slice (some ⟨g,0,none⟩) i cap/\∀ j,j<i->wr.cell? ⟨g,j,none⟩=some (.bool (f j)):=by
      intro hp;obtain⟨g,cap,e,_⟩:=hown.shape (by simp[Zbx];omega);have e':u6=.slice (some ⟨g,0,none⟩) i cap:=by rw[e];simp[Zbx]
      refine⟨g,cap,e',fun j hj=>?_⟩;rw[e'] at hown;have:=hown.cellB j (by simp;omega);rw[this];simp[List.getD,hj]
     clear hown;rcases(show op=1\/op=2\/op=3\/op=4\/op=5\/op=6\/op=7\/op=8\/op=9\/op=10 by omega) with rfl|rfl|rfl|rfl|rfl|rfl|rfl|rfl|rfl|rfl
     ·
      go_wp2_with fail;go_ret;exact HF.out _ (by rw[HE.out];rfl)
     ·
      go_wp2_with fail;go_ret;exact HF.out _ (by rw[HE.out];rfl)
     ·
      obtain⟨v5,v6⟩:=v2 rfl;obtain⟨u,rfl⟩:∃ u:Nat,v=(u:Int):=⟨v.toNat,by omega⟩;have HEV:Hid (B=Zb1 ls u):=Hd (by rw[HE.out];rfl)
      by_cases hu:u<ls.length
      ·
       obtain⟨bl,ol,rfl,cl0⟩:=(HLS.out.below (HB1.out.trans (HBEL.out.mono HB1.out.size))).cells u hu;have huz:(u:Int)<ls.length:=by omega
       have HEV2:Hid (B=ls.getD u false):=HEV;obtain⟨yy,hyy⟩:∃ yy,yy=ls.getD u false:=⟨_,rfl⟩;rw[<- hyy] at cl0 HEV2;clear hyy;go_wp2_with fail;go_ret;exact HF.out _ HEV2.out.symm
      ·
       have huz:¬ (u:Int)<ls.length:=by omega
       have HEV2:Hid (B=false):=Hd (by rw[HEV.out];unfold Zb1;simp[List.getD,List.getElem?_eq_none (show ls.length<=u by omega)]);go_wp2_with fail;go_ret;exact HF.out _ HEV2.out.symm
     ·
      have HV:Hid (((k:Int) == 0)=B):=Hd (by rw[HE.out,HK.out];exact Zq5 _ 0);go_wp2_with fail;go_ret;exact HF.out _ HV.out
     ·
      have HV:Hid (((k:Int) == (i:Int))=B):=Hd (by rw[HE.out,HK.out];exact Zq5 _ i);go_wp2_with fail;go_ret;exact HF.out _ HV.out
     ·
      have HV:Hid (decide (0<k)=B):=Hd (by
       rw[HE.out,HK.out];rfl)
      go_wp2_with fail;go_ret;exact HF.out _ HV.out
     ·
      have HV:Hid (((k:Int).tmod 2 == 1)=B):=Hd (by rw[HE.out,HK.out];exact tmod2 _);go_wp2_with fail;go_ret;exact HF.out _ HV.out
     ·
      have:=hl2 (.inl rfl);subst this;obtain⟨g,cap,rfl,hc⟩:=hkids (by omega);have c0:=hc 0 (by omega);have c1:=hc 1 (by omega);have HV:Hid ((!(f 0)||f 1)=B):=Hd (by rw[HE.out];rfl);obtain⟨y0,hy0⟩:∃ y,y=f 0:=⟨_,rfl⟩;obtain⟨y1,hy1⟩:∃ y,y=f 1:=⟨_,rfl⟩;rw[<- hy0] at c0 HV;rw[<- hy1] at c1 HV;clear hy0 hy1 hc hkids;cases y0 with
      | true =>
        go_wp2_with fail;go_ret;exact HF.out _ HV.out
      | false =>
        go_wp2_with fail;go_ret;exact HF.out _ HV.out
     ·
      have HV:Hid (((k:Int) != 1)=B):=Hd (by
       rw[HE.out,HK.out]
       show (!((cntT i f:Int) == ((1:Nat):Int)))=decide (cntT i f≠1)
       rw[Zq5]
       by_cases h:cntT i f=1<;>simp[h])
      go_wp2_with fail;go_ret;exact HF.out _ HV.out
     ·
      have:=hl3 rfl;subst this;obtain⟨g,cap,rfl,hc⟩:=hkids (by omega);have c0:=hc 0 (by omega);have c1:=hc 1 (by omega);have c2:=hc 2 (by omega);have HV:Hid (iteB (f 0) (f 1) (f 2)=B):=Hd (by rw[HE.out];rfl);obtain⟨y0,hy0⟩:∃ y,y=f 0:=⟨_,rfl⟩;obtain⟨y1,hy1⟩:∃ y,y=f 1:=⟨_,rfl⟩;obtain⟨y2,hy2⟩:∃ y,y=f 2:=⟨_,rfl⟩;rw[<- hy0] at c0 HV;rw[<- hy1] at c1 HV;rw[<- hy2] at c2 HV;clear hy0 hy1 hy2 hc hkids;cases y0 with
      | true =>
        go_wp2_with fail;go_ret;exact HF.out _ HV.out
      | false =>
        go_wp2_with fail;go_ret;exact HF.out _ HV.out
open Go.RowKit
section
variable {P:Program} {ops:Array Oper} {S:World->Prop} {Q:Exit->Act->World->Prop} {last:Bool}
theorem Zte {o:Oper} {r:List (Option Oper×Bool)} {a:Act} {w w':World} {v:Value} (hw:Region.wanted o (yielded ops a.tmps)=true)
 (he:(execOp a.eval o).run P w=.ok (.value v) w') (hS:S w') (h:Zcq P ops Q S last r (a.put o.dst v) w'):Zcq P ops Q S last ((some o,true)::r) a w:=by
 unfold Zcq;simp only[hw,if_true,Oper.wp,he,Oper.upon];exact⟨.inr hS,h⟩
theorem Ztd {o:Oper} {r:List (Option Oper×Bool)} {a:Act} {w:World} {f:FuncId} {args:Array Value} {R:Value->World->Prop} (hw:Region.wanted o (yielded ops a.tmps)=true)
 (he:(execOp a.eval o).run P w=.ok (.enter f args) w) (hc:Calls P f args w fun e w'=>∃ v,e=.returned v/\S w'/\R v w')
 (h:∀ v w',S w'->R v w'->Zcq P ops Q S last r (a.put o.dst v) w'):Zcq P ops Q S last ((some o,true)::r) a w:=by
 unfold Zcq;simp only[hw,if_true,Oper.wp,he,Oper.upon];exact hc.mono fun e w' ⟨v,h1,h2,h3⟩=>by subst h1;exact⟨.inr h2,h v w' h2 h3⟩
end
theorem Zgo (mb:Nat) (b:Bool) (w:World):Calls Tryz.prog 140 #[.pointer (some ⟨mb,0,none⟩),.bool b] w fun x w'=>x=.returned (.int .i64 (if b then 1 else 0))/\w=w':=by
 cases b with
 | true =>
   go_enter Tryz.func140,Tryz.ntmps140
   go_wp2_with fail;go_ret;exact⟨rfl,rfl⟩
 | false =>
   go_enter Tryz.func140,Tryz.ntmps140
   go_wp2_with fail;go_ret;exact⟨rfl,rfl⟩
theorem Yak {α:Type} {l:List α} (h:l.length=2):∃ a b,l=[a,b]:=by
 match l,h with
 | [a,b],_=>exact⟨a,b,rfl⟩
theorem Zvi {α:Type} {l:List α} (h:l.length=3):∃ a b c,l=[a,b,c]:=by
 match l,h with
 | [a,b,c],_=>exact⟨a,b,c,rfl⟩
theorem Zsc {f:Nat->Nat} (h:∀ i,1<=f i):∀ k,k<=sumN k f
 | 0=>Nat.zero_le _
 | k+1=>by
   have:=Zsc h k;have:=h k
   show k+1<=sumN k f+f k
   omega
section
variable {K:Law} {n:Nat} {Od:List Nat->Prop} {room:Nat} {w0 w w' w'':World} {mb:Nat} {fs fs':List (Int×BF)} {nx nx':Int} {o o':Own} {m m':ManD} {V V':Nat->BF}
theorem Goes.refl {M:Nat} (h:SatE K n Od room w0 mb fs nx w o m V) (hw:m.waits=[]/\m.d.pool.many<=M):Goes K n Od room w0 mb fs nx (NoW M) o w w:=⟨o,m,V,ChgX.of_below (Below.refl _ _) o NoB,hw,h⟩
theorem Goes.after {Wt:List Ev->Int->Nat->Prop} (hc:ChgX NoB o o' w w') (g:Goes K n Od room w0 mb fs nx Wt o' w' w''):Goes K n Od room w0 mb fs nx Wt o w w'':=by
 obtain⟨o2,m2,V2,h1,h2,h3⟩:=g;exact⟨o2,m2,V2,hc.trans h1 (fun _ _ e=>e),h2,h3⟩
theorem Goes.cell {Wt:List Ev->Int->Nat->Prop} (g:Goes K n Od room w0 mb fs nx Wt o w w') {p:Addr} {v:Value} (hc:w.cell? p=some v) (hb:o p.block=none):w'.cell? p=some v:=by
 obtain⟨o2,m2,V2,h1,h2,h3⟩:=g;exact h1.cell hc hb (fun e=>e)
theorem Goes.below0 {Wt:List Ev->Int->Nat->Prop} (g:Goes K n Od room w0 mb fs nx Wt o w w'):Below w0.heap.size w0 w':=by
 obtain⟨o2,m2,V2,h1,h2,h3⟩:=g;exact h3.chg.below0
structure BuiT (K:Law) (n:Nat) (Od:List Nat->Prop) (room:Nat) (w0:World) (mb:Nat) (fs:List (Int×BF)) (nx:Int) (M:Nat) (o:Own) (w:World) (vl:Value) (ks:List Int) (W:World) (o':Own) (m':ManD) (V':Nat->BF):Prop where
 sat:SatE K n Od room w0 mb fs nx W o' m' V'
 waits:m'.waits=[]/\m'.d.pool.many<=M
 chg:ChgX NoB o o' w W
 l:LawL W o' w.heap.size vl ks
def BuiS (K:Law) (n:Nat) (Od:List Nat->Prop) (room:Nat) (w0:World) (mb:Nat) (fs:List (Int×BF)) (nx:Int) (M:Nat) (o:Own) (w:World) (vl:Value) (ks:List Int) (W:World):Prop:=∃ o' m' V',BuiT K n Od room w0 mb fs nx M o w vl ks W o' m' V'
section
variable {M:Nat} {vl vl':Value} {ks:List Int} {W W':World}
theorem BuiT.go (h:BuiT K n Od room w0 mb fs nx M o w vl ks W o' m' V') {M':Nat} (g:Goes K n Od room w0 mb fs' nx' (NoW M') o' W W'):BuiS K n Od room w0 mb fs' nx' M' o w vl ks W':=by
 obtain⟨o2,m2,V2,h1,h2,h3⟩:=g;exact⟨o2,m2,V2,h3,h2,h.chg.trans h1 (fun _ _ e=>e),h.l.chg h1⟩
theorem BuiT.refl (h:BuiT K n Od room w0 mb fs nx M o w vl ks W o' m' V'):Goes K n Od room w0 mb fs nx (NoW M) o' W W:=Goes.refl h.sat h.waits
theorem BuiS.below (h:BuiS K n Od room w0 mb fs nx M o w vl ks W) (hb:Below W.heap.size W W'):BuiS K n Od room w0 mb fs nx M o w vl ks W':=by
 obtain⟨o',m',V',h⟩:=h;exact h.go (h.refl.below hb)
theorem BuiS.goes (h:BuiS K n Od room w0 mb fs nx M o w vl ks W):Goes K n Od room w0 mb fs nx (NoW M) o w W:=by
 obtain⟨o',m',V',h⟩:=h;exact⟨o',m',V',h.chg,h.waits,h.sat⟩
theorem BuiS.app {k:Int} (h:BuiT K n Od room w0 mb fs nx M o w vl ks W o' m' V') (hown:OwnC 3 W' w.heap.size vl' (Zba ks++[.int .i64 k])) (e1:W'.os=W.os) (e2:W'.tape=W.tape) (e3:W'.output=W.output) (e4:W.heap.size<=W'.heap.size) (hk:Zci vl vl' W W') (hw0:w0.heap.size<=w.heap.size) :
 BuiS K n Od room w0 mb fs nx M o w vl' (ks++[k]) W':=by
 have hw:=Zsj e1 e2 e3 e4 hk;exact⟨o',m',V',h.sat.other hw (fun k _ hk=>⟨by have:=(h.l.own.lt k hk).1;omega,h.l.no k hk⟩),h.waits,h.chg.trans (ChgX.of_wr (C:=fun k=>w.heap.size<=k) hw o' (fun k _ hk=>(h.l.own.lt k hk).1)) (fun k hk e=>by omega),h.l.app h.sat.lt hown hk⟩
theorem BuiS.cells (h:BuiS K n Od room w0 mb fs nx M o w vl ks W) (hp:0<ks.length):∃ g c,vl=.slice (some ⟨g,0,none⟩) ks.length c/\∀ j,j<ks.length->W.cell? ⟨g,j,none⟩=some (.int .i64 (at0 ks j)):=by
 obtain⟨o',m',V',h⟩:=h;obtain⟨g,c,e,_⟩:=h.l.own.shape (by simpa [Zba] using hp);have e':vl=.slice (some ⟨g,0,none⟩) ks.length c:=by rw[e];simp[Zba]
 refine⟨g,c,e',fun j hj=>?_⟩;have ho:=h.l.own;rw[e'] at ho;rw[ho.cell j (by simpa [Zba] using hj)];simp[Zba,Zbq hj,hj]
theorem BuiS.cellsN (h:BuiS K n Od room w0 mb fs nx M o w vl ks W) {i:Nat} (hl:ks.length=i) (hp:0<i):∃ g c,vl=.slice (some ⟨g,0,none⟩) i c/\∀ j,j<i->W.cell? ⟨g,j,none⟩=some (.int .i64 (at0 ks j)):=by
 subst hl;exact h.cells hp
end
def Zhu (n s:Nat):Nat:=s*2^n-(2^n-1)
theorem Zia (n:Nat) {s:Nat} (h:1<=s):Zhu n s+(2^n-1)=s*2^n:=by
 have:=Nat.mul_le_mul_right (2^n) h;unfold Zhu;omega
def Ze3 (n:Nat) (kid:Nat->ExT) (i:Nat):Nat:=sumN i fun j=>Zhu n (kid j).size
theorem Zop (n:Nat) (kid:Nat->ExT):∀ i,Ze3 n kid i+i*(2^n-1)=(sumN i fun i=>(kid i).size)*2^n
 | 0=>by simp[Ze3,sumN]
 | i+1=>by
   have h1:=Zop n kid i;have h2:=Zia n (kid i).size_pos
   show Ze3 n kid i+Zhu n (kid i).size+(i+1)*(2^n-1)=((sumN i fun i=>(kid i).size)+(kid i).size)*2^n
   rw[Nat.add_mul,Nat.add_mul];omega
structure BCtx (K:Law) (n:Nat) (Od:List Nat->Prop) (room:Nat) (w0:World) (mb:Nat) (fs:List (Int×BF)) (nx:Int) (M:Nat) (w w1:World) (o:Own) (m:ManD) (V:Nat->BF) (op v:Int) (nk:Nat) (kid:Nat->ExT) (a:Option Addr) (c:Nat) (E:ExT) (Q:Ending->World->Prop):Prop where
 HKK:Hid (Zb3 K)
 H5:Hid (∀ k,k<nk->∃ b off x0 x1 x2,a=some ⟨b,off,none⟩/\w0.cell? ⟨b,off+k*3,none⟩=some x0/\w0.cell? ⟨b,off+k*3+1,none⟩=some x1/\w0.cell? ⟨b,off+k*3+2,none⟩=some x2/\Zbb w0 (kid k) (.agg #[x0,x1,x2]))
 HKS:Hid (∀ i,i<nk->(sumN i fun i=>(kid i).size)+(kid i).size+1<=E.size)
 HSZ:Hid (E.size=1+sumN nk fun i=>(kid i).size)
 HPOS:Hid (∀ k,k<=sumN k fun i=>(kid i).size)
 IH:Hid (∀ (i:Nat) (x:Value) (fs':List (Int×BF)) (nx':Int) (W:World) (o':Own) (m':ManD) (V':Nat->BF) (M':Nat),i<nk->SatE K n Od room w0 mb fs' nx' W o' m' V'->m'.waits=[]/\m'.d.pool.many<=M'->B2 fs'->Zbb w0 (kid i) x->nx'+3*(kid i).size<549755813000->M'+(kid i).size*2^n<=room ->
  Calls Tryz.prog 70 #[.pointer (some ⟨mb,0,none⟩),x] W fun y w'=>∃ k:Int,y=.returned (.tuple #[.int .i64 k,.bool true])/\k+3<=nx'+3*(kid i).size/\Goes K n Od room w0 mb (fs'++[(k,fnT (kid i))]) (k+1) (NoW (M'+Zhu n (kid i).size)) o' W w')
 HW1:Hid (w.alloc (.cells #[.int .i64 op,.int .i64 v,.slice a nk c] 86)=w1)
 HG1:Hid (Goes K n Od room w0 mb fs nx (NoW M) o w1 w1)
 HSAT1:Hid (SatE K n Od room w0 mb fs nx w1 o m V)
 HWT:Hid (m.waits=[]/\m.d.pool.many<=M)
 HB2:Hid (B2 fs)
 HQ:Hid (∀ (k:Int) F W M',F=fnT E->k+3<=nx+3*E.size->M'<=M+Zhu n E.size->Goes K n Od room w0 mb (fs++[(k,F)]) (k+1) (NoW M') o w1 W->Q (.returned (.tuple #[.int .i64 k,.bool true])) W)
 HMR:Hid (∀ i,i<nk->M+(sumN i fun i=>(kid i).size)*2^n+(kid i).size*2^n+2^n<=room)
 HCK:Hid (∀ i,Ze3 n kid i+i*(2^n-1)=(sumN i fun i=>(kid i).size)*2^n)
 HCI:Hid (∀ i,Zhu n (kid i).size+(2^n-1)=(kid i).size*2^n)
 HEP:Hid (E.size*2^n=2^n+(sumN nk fun i=>(kid i).size)*2^n/\Zhu n E.size+(2^n-1)=E.size*2^n)
 HME:Hid (M+E.size*2^n<=room)
 hn64:nk<=64
 hnx:nx+3*E.size<549755813000
 hE1:1<=E.size
 hs1:w1.heap.size=w.heap.size+1
 d0:w1.cell? ⟨w.heap.size,0,none⟩=some (.int .i64 op)
 d1:w1.cell? ⟨w.heap.size,1,none⟩=some (.int .i64 v)
 d2:w1.cell? ⟨w.heap.size,2,none⟩=some (.slice a nk c)
 on:o w.heap.size=none
 hw0:w0.heap.size<=w1.heap.size
 hp2:0<2^n
 h2 : -9223372036854775808<=op/\op<=9223372036854775807
 h3 : -9223372036854775808<=v/\v<=9223372036854775807
theorem Zso {w1:World} {op v:Int} {nk:Nat} {kid:Nat->ExT} {a:Option Addr} {c:Nat} {E:ExT} {Q:Ending->World->Prop} {M:Nat} (hctx:BCtx K n Od room w0 mb fs nx M w w1 o m V op v nk kid a c E Q) (h1:op=1) (hF:fnT E=fun _=>true) :
 Calls Tryz.prog 70 #[.pointer (some ⟨mb,0,none⟩),.agg #[.int .i64 op,.int .i64 v,.slice a nk c]] w Q:=by
 obtain⟨HKK,H5,HKS,HSZ,HPOS,IH,HW1,HG1,HSAT1,HWT,HB2,HQ,HMR,HCK,HCI,HEP,HME,hn64,hnx,hE1,hs1,d0,d1,d2,on,hw0,hp2,h2,h3⟩:=hctx;subst h1;have HCN:=Hd (Zgo mb true w1);have HCP:=Hd (Zna HKK.out HG1.out (by omega) (k:=1) (F:=fun _=>true) HB2.out.one);have HFF:Hid ((fun _=>true)=fnT E):=Hd hF.symm;have HCE:Hid (M<=M+Zhu n E.size):=Hd (Nat.le_add_right _ _);clear IH
 go_enter Tryz.func70,Tryz.ntmps70
 go_upto_region 1 with fail;rw[HW1.out];go_wp2_with fail;refine HCN.out.mono ?_;rintro y w' ⟨rfl,rfl⟩;go_wp2_with fail;refine HCP.out.mono ?_;rintro y w2 ⟨rfl,g⟩;have HF:=Hd (HQ.out nx _ w2 _ HFF.out (by omega) HCE.out g);clear g;go_wp2_with fail;exact HF.out
theorem Zqm {w1:World} {op v:Int} {nk:Nat} {kid:Nat->ExT} {a:Option Addr} {c:Nat} {E:ExT} {Q:Ending->World->Prop} {M:Nat} (hctx:BCtx K n Od room w0 mb fs nx M w w1 o m V op v nk kid a c E Q) (h1:op=2) (hF:fnT E=fun _=>false) :
 Calls Tryz.prog 70 #[.pointer (some ⟨mb,0,none⟩),.agg #[.int .i64 op,.int .i64 v,.slice a nk c]] w Q:=by
 obtain⟨HKK,H5,HKS,HSZ,HPOS,IH,HW1,HG1,HSAT1,HWT,HB2,HQ,HMR,HCK,HCI,HEP,HME,hn64,hnx,hE1,hs1,d0,d1,d2,on,hw0,hp2,h2,h3⟩:=hctx;subst h1;have HCN:=Hd (Zgo mb false w1);have HCP:=Hd (Zna HKK.out HG1.out (by omega) (k:=0) (F:=fun _=>false) HB2.out.zero);have HFF:Hid ((fun _=>false)=fnT E):=Hd hF.symm;have HCE:Hid (M<=M+Zhu n E.size):=Hd (Nat.le_add_right _ _);clear IH
 go_enter Tryz.func70,Tryz.ntmps70
 go_upto_region 1 with fail;rw[HW1.out];go_wp2_with fail;refine HCN.out.mono ?_;rintro y w' ⟨rfl,rfl⟩;go_wp2_with fail;refine HCP.out.mono ?_;rintro y w2 ⟨rfl,g⟩;have HF:=Hd (HQ.out nx _ w2 _ HFF.out (by omega) HCE.out g);clear g;go_wp2_with fail;exact HF.out
theorem Zul {w1:World} {op v:Int} {nk:Nat} {kid:Nat->ExT} {a:Option Addr} {c:Nat} {E:ExT} {Q:Ending->World->Prop} {M:Nat} (hctx:BCtx K n Od room w0 mb fs nx M w w1 o m V op v nk kid a c E Q) {u:Nat} (hu:u<n) (h1:op=3) (hvu:v=u) (hF:fnT E=varF u) :
 Calls Tryz.prog 70 #[.pointer (some ⟨mb,0,none⟩),.agg #[.int .i64 op,.int .i64 v,.slice a nk c]] w Q:=by
 obtain⟨HKK,H5,HKS,HSZ,HPOS,IH,HW1,HG1,HSAT1,HWT,HB2,HQ,HMR,HCK,HCI,HEP,HME,hn64,hnx,hE1,hs1,d0,d1,d2,on,hw0,hp2,h2,h3⟩:=hctx;subst hvu;subst h1;have HCP:=Hd (Yby HKK.out HG1.out (by omega) (by have:=HEP.out;have:=HME.out;omega) hu);have HFF:Hid (varF u=fnT E):=Hd hF.symm;have HCE:Hid (M+1<=M+Zhu n E.size):=Hd (by have:=HEP.out;omega);clear IH
 go_enter Tryz.func70,Tryz.ntmps70
 go_upto_region 1 with fail;rw[HW1.out];go_wp2_with fail;refine HCP.out.mono ?_;rintro y w2 ⟨rfl,g⟩;have HF:=Hd (HQ.out nx _ w2 _ HFF.out (by omega) HCE.out g);clear g;go_wp2_with fail;exact HF.out
end
open Go.RowKit
section
variable {K:Law} {n:Nat} {Od:List Nat->Prop} {room:Nat} {w0 w w' w'':World} {mb:Nat} {fs fs':List (Int×BF)} {nx nx':Int} {o o':Own} {m m':ManD} {V V':Nat->BF}
theorem Zuh {w1:World} {op v:Int} {nk:Nat} {kid:Nat->ExT} {a:Option Addr} {c:Nat} {E:ExT} {Q:Ending->World->Prop} {M:Nat} (hctx:BCtx K n Od room w0 mb fs nx M w w1 o m V op v nk kid a c E Q) (h1:op=5\/op=6\/op=7) (hF:fnT E=accT op kid nk) :
 Calls Tryz.prog 70 #[.pointer (some ⟨mb,0,none⟩),.agg #[.int .i64 op,.int .i64 v,.slice a nk c]] w Q:=by
 obtain⟨HKK,H5,HKS,HSZ,HPOS,IH,HW1,HG1,HSAT1,HWT,HB2,HQ,HMR,HCK,HCI,HEP,HME,hn64,hnx,hE1,hs1,d0,d1,d2,on,hw0,hp2,h2,h3⟩:=hctx;have h59:5<=op/\op<=9:=by omega
 have HFF:Hid (accT op kid nk=fnT E):=Hd hF.symm;have HCN:=Hd (fun b=>Zgo mb b w1)
 have HCP:Hid (∀ z:Int,z=(if op=5 then 1 else 0)->Calls Tryz.prog 139 #[.pointer (some ⟨mb,0,none⟩),.int .i64 z] w1 fun x w''=>x=.returned (.tuple #[.int .i64 nx,.int .i64 0])/\Goes K n Od room w0 mb (fs++[(nx,accT op kid 0)]) (nx+1) (NoW M) o w1 w''):=Hd (by
  rintro z rfl
  by_cases e:op=5
  ·
   rw[if_pos e,show accT op kid 0=fun _=>true by unfold accT;simp[e]];exact Zna HKK.out HG1.out (by omega) HB2.out.one
  ·
   rw[if_neg e,show accT op kid 0=fun _=>false by unfold accT;simp[e]];exact Zna HKK.out HG1.out (by omega) HB2.out.zero)
 obtain⟨A,hA⟩:∃ A:Nat->BF,A=accT op kid:=⟨_,rfl⟩;have HAJ:Hid (∀ i,Zo9 op (A i) (fnT (kid i))=A (i+1)):=Hd fun i=>by rw[hA];rfl
 rw[<- hA] at HCP HFF;clear hA;rcases h1 with h1|h1|h1
 all_goals
  subst h1
  go_enter Tryz.func70,Tryz.ntmps70
  go_upto_region 1 with fail;rw[HW1.out];go_wp2_with fail;refine(HCN.out _).mono ?_;rintro y w' ⟨rfl,rfl⟩;go_wp2_with fail;refine(HCP.out _ (by rfl)).mono ?_;rintro y w2 ⟨rfl,g⟩;have HG0:=Hd g;clear g HCN HCP;go_wp2_with fail
  go_loopw [10,12,13,14] (fun s10 s12 s13 s14 wr=>∃ (i:Nat) (k:Int),i<=nk/\s10=.int .i64 k/\s12=.bool true/\s13=.int .i64 i/\Hid (k+3<=nx+3*((1+sumN i fun i=>(kid i).size:Nat):Int))/\Hid (Goes K n Od room w0 mb (fs++[(k,A i)]) (k+1) (NoW (M+(sumN i fun i=>(kid i).size)*2^n)) o w1 wr)) (fun _ _ s13 _ _=>nk-(intOf s13).toNat)
  case atStart=>exact⟨0,nx,Nat.zero_le _,rfl,rfl,rfl,Hd (by show nx+3<=nx+3*((1+0:Nat):Int);omega),Hd (HG0.out.more (Nat.le_add_right _ _))⟩
  case round =>
   obtain⟨i,k,hi,rfl,rfl,rfl,HN,HG⟩:=hrel;have e0:=HG.out.cell (p:=⟨w.heap.size,0,none⟩) d0 on;have e2:=HG.out.cell (p:=⟨w.heap.size,2,none⟩) d2 on
   by_cases hlt:i<nk
   ·
    obtain⟨b,off,x0,x1,x2,rfl,c0,c1,c2,hx⟩:=H5.out i hlt;have hb0:=HG.out.below0;have q0:=(hb0.cell (p:=⟨b,off+i*3,none⟩) (Zaa c0)).trans c0;have q1:=(hb0.cell (p:=⟨b,off+i*3+1,none⟩) (Zaa c1)).trans c1;have q2:=(hb0.cell (p:=⟨b,off+i*3+2,none⟩) (Zaa c2)).trans c2;have hiz:(i:Int)<nk:=by omega
    have hks:=HKS.out i hlt;obtain⟨o1,m1,V1,hc1,hw1',hs1'⟩:=HG.out;have hsum:=HN.out;have HCALL:=Hd (IH.out i _ (fs++[(k,A i)]) (k+1) _ o1 m1 V1 _ hlt hs1' hw1' (HB2.out.app _) hx (by omega) (by have:=HMR.out i hlt;omega));have HCH:=Hd hc1;clear hb0 c0 c1 c2 hx hs1' hw1' hc1;go_wp2_with fail;refine HCALL.out.mono ?_;rintro y w3 ⟨k2,rfl,hk2,g3⟩
    have HG3:Hid (Goes K n Od room w0 mb (fs++[(k,A i),(k2,fnT (kid i))]) (k2+1) (NoW (M+(sumN i fun i=>(kid i).size)*2^n+Zhu n (kid i).size)) o w1 w3):=Hd (by
     have:=g3.after HCH.out;rw[List.append_assoc] at this;exact this)
    have f0:=HG3.out.cell (p:=⟨w.heap.size,0,none⟩) d0 on;have HJ:=Hd (Zrw HKK.out HG3.out HB2.out (by omega) (by have:=HMR.out i hlt;have:=HCI.out i;omega) h59.1 h59.2);clear g3 HCALL HCH q0 q1 q2 e0 e2;go_wp2_with fail;refine HJ.out.mono ?_;rintro y w4 ⟨k4,rfl,hk4,g4⟩
    have HG4:Hid (Goes K n Od room w0 mb (fs++[(k4,A (i+1))]) (k4+1) (NoW (M+(sumN (i+1) fun i=>(kid i).size)*2^n)) o w1 w4):=Hd (by
     rw[<- HAJ.out i];refine g4.more ?_
     show _<=M+((sumN i fun i=>(kid i).size)+(kid i).size)*2^n
     rw[Nat.add_mul];have:=HCI.out i;omega)
    have HN4:Hid (k4+3<=nx+3*((1+sumN (i+1) fun i=>(kid i).size:Nat):Int)):=Hd (by
     show k4+3<=nx+3*((1+((sumN i fun i=>(kid i).size)+(kid i).size):Nat):Int)
     omega)
    clear g4 HJ f0 HG3;go_wp2_with fail;go_roundw
    case rel=>exact⟨i+1,k4,by omega,rfl,rfl,by go_num,HN4,HG4⟩
    case measure=>simp[intOf];omega
   ·
    obtain rfl:i=nk:=by omega
    have hiz:¬ (i:Int)<i:=by omega
    have HF:=Hd (HQ.out k _ _ _ HFF.out (by have:=HN.out;have:=HSZ.out;omega) (by have:=HEP.out;omega) HG.out);go_wp2_with fail;exact HF.out
end
open Go.RowKit
section
variable {K:Law} {n:Nat} {Od:List Nat->Prop} {room:Nat} {w0 w w' w'':World} {mb:Nat} {fs fs':List (Int×BF)} {nx nx':Int} {o o':Own} {m m':ManD} {V V':Nat->BF}
theorem Zuj {w1:World} {op v:Int} {nk:Nat} {kid:Nat->ExT} {a:Option Addr} {c:Nat} {E:ExT} {Q:Ending->World->Prop} {M:Nat} (hctx:BCtx K n Od room w0 mb fs nx M w w1 o m V op v nk kid a c E Q) (h1:op=4) (hnk:nk=1) (hF:fnT E=notF (fnT (kid 0))) :
 Calls Tryz.prog 70 #[.pointer (some ⟨mb,0,none⟩),.agg #[.int .i64 op,.int .i64 v,.slice a nk c]] w Q:=by
 obtain⟨HKK,H5,HKS,HSZ,HPOS,IH,HW1,HG1,HSAT1,HWT,HB2,HQ,HMR,HCK,HCI,HEP,HME,hn64,hnx,hE1,hs1,d0,d1,d2,on,hw0,hp2,h2,h3⟩:=hctx;have g1:(op == 1)=false:=by simp;omega
 have g2:(op == 2)=false:=by simp;omega
 have g3:(op == 3)=false:=by simp;omega
 have g5:(op == 5)=false:=by simp;omega
 have g6:(op == 6)=false:=by simp;omega
 have g7:(op == 7)=false:=by simp;omega
 have g4:(op == 4)=true:=by simp;omega
 have HNK:=Hd hnk;clear h1 hnk;obtain⟨w2,hw2⟩:∃ w2,w2=w1.alloc (.cells #[] 3):=⟨_,rfl⟩;have HW2:Hid (_=w2):=Hd hw2.symm;have hb2':Below w1.heap.size w1 w2:=by rw[hw2];exact Zac _ _
 have HBS0:Hid (BuiS K n Od room w0 mb (fs++[]) nx (M+Ze3 n kid 0) o w1 (.slice (some ⟨w.heap.size+1,0,none⟩) 0 0) (([]:List (Int×BF)).map Prod.fst) w2):=Hd ⟨o,m,V,by rw[List.append_nil];exact HSAT1.out.below hb2',HWT.out,Zcj hb2' o,by rw[hw2,<- hs1];exact Zf4 _ _ _ (Nat.le_refl _),fun k hk=>by cases hk;rw[<- hs1];exact HSAT1.out.lt.none (Nat.le_refl _)⟩;have HB12:=Hd hb2';clear hw2 hb2'
 go_enter Tryz.func70,Tryz.ntmps70
 go_upto_region 1 with fail;rw[HW1.out];go_upto_region 23 with fail;rw[HW2.out];have e2:=(HB12.out.cell (p:=⟨w.heap.size,2,none⟩) (Zaa d2)).trans d2;go_wp2_with fail
 go_loopw [15,106] (fun s15 s106 wr=>∃ (i:Nat) (hs:List (Int×BF)) (nxi:Int),i<=nk/\s106=.int .i64 i/\hs.length=i/\nxi+2*i<=nx+3*((sumN i fun i=>(kid i).size:Nat):Int)/\Hid (∀ j (hj:j<hs.length),hs[j].2=fnT (kid j))/\Hid (BuiS K n Od room w0 mb (fs++hs) nxi (M+Ze3 n kid i) o w1 s15 (hs.map Prod.fst) wr)) (fun _ s106 _=>nk-(intOf s106).toNat)
 case atStart=>exact⟨0,[],nx,Nat.zero_le _,rfl,rfl,by show nx+2*((0:Nat):Int)<=nx+3*((0:Nat):Int);omega,Hd (fun j hj=>by simp at hj),HBS0⟩
 case round =>
  clear HBS0 HB12 e2
  rename World=>wy
  obtain⟨i,hs,nxi,hi,rfl,hhl,hnxi,HFS,HBS⟩:=hrel
  by_cases hlt:i<nk
  ·
   obtain⟨b,off,x0,x1,x2,rfl,c0,c1,c2,hx⟩:=H5.out i hlt;have hb0:=HBS.out.goes.below0;have q0:=(hb0.cell (p:=⟨b,off+i*3,none⟩) (Zaa c0)).trans c0;have q1:=(hb0.cell (p:=⟨b,off+i*3+1,none⟩) (Zaa c1)).trans c1;have q2:=(hb0.cell (p:=⟨b,off+i*3+2,none⟩) (Zaa c2)).trans c2;obtain⟨zo,zv,za,zn,zc,rfl,rfl,rfl⟩:=hx.parts;have hiz:(i:Int)<nk:=by omega
   have hks:=HKS.out i hlt;obtain⟨wz,hwz⟩:∃ wz,wz=wy.alloc (.cells #[.int .i64 zo,.int .i64 zv,.slice za zn zc] 86):=⟨_,rfl⟩;have HWZ:Hid (_=wz):=Hd hwz.symm;have hbz:Below wy.heap.size wy wz:=by rw[hwz];exact Zac _ _
   have hblk:wz.heap[wy.heap.size]?=some (.cells #[.int .i64 zo,.int .i64 zv,.slice za zn zc] 86 (0,0)):=by rw[hwz];exact heap_alloc_new _ _
   have p0:wz.cell? ⟨wy.heap.size,0,none⟩=some (.int .i64 zo):=by rw[cell_of_row _ _ 0 _ _ _ hblk];rfl
   have p1:wz.cell? ⟨wy.heap.size,1,none⟩=some (.int .i64 zv):=by rw[cell_of_row _ _ 1 _ _ _ hblk];rfl
   have p2:wz.cell? ⟨wy.heap.size,2,none⟩=some (.slice za zn zc):=by rw[cell_of_row _ _ 2 _ _ _ hblk];rfl
   obtain⟨o1,m1,V1,bt⟩:=HBS.out.below hbz;have hpos:=HPOS.out i;have HCALL:=Hd (IH.out i _ (fs++hs) nxi wz o1 m1 V1 _ hlt bt.sat bt.waits (HB2.out.app _) hx (by omega) (by have:=HMR.out i hlt;have:=HCK.out i;omega));have HBT:=Hd bt;clear hb0 c0 c1 c2 hx bt hwz hbz hblk HBS;go_upto_region 26 with fail;rw[HWZ.out];clear q0 q1 q2;go_wp2_with fail;refine HCALL.out.mono ?_;rintro y w3 ⟨k2,rfl,hk2,gg⟩;have HBS3:=Hd (HBT.out.go (M':=M+Ze3 n kid (i+1)) (gg.more (Nat.le_of_eq (Nat.add_assoc _ _ _))));have HF3:Hid (∀ j (hj:j<(hs++[(k2,fnT (kid i))]).length),(hs++[(k2,fnT (kid i))])[j].2=fnT (kid j)):=Hd fun j hj=>by
    rcases Nat.lt_or_ge j hs.length with h|h
    ·
     rw[List.getElem_append_left h];exact HFS.out j h
    ·
     have hj':j=i:=by simp at hj;omega
     subst hj';rw[List.getElem_append_right (by omega)];simp
   clear gg HCALL HBT p0 p1 p2;obtain⟨o3,m3,V3,bt3⟩:=HBS3.out;have hsz3:w1.heap.size<=w3.heap.size:=bt3.chg.size;have HBT3:=Hd bt3;clear bt3;go_upto_region 30 with (at_builtin;refine Zc5 Znd _ rfl _ _ rfl w1.heap.size _ (Zba (hs.map Prod.fst)) _ rfl rfl rfl rfl rfl (by exact HBT3.out.l.own) (by simp[Zba];omega) hsz3 ?_;intro v5 w5 hown5 r1 r2 r3 r4 hk5)
   have HBS5:Hid (BuiS K n Od room w0 mb (fs++(hs++[(k2,fnT (kid i))])) (k2+1) (M+Ze3 n kid (i+1)) o w1 v5 ((hs++[(k2,fnT (kid i))]).map Prod.fst) w5):=Hd (by
    have:=BuiS.app HBT3.out hown5 r1 r2 r3 r4 hk5 hw0;rw[List.append_assoc] at this;rw[List.map_append];exact this)
   clear hown5 r1 r2 r3 r4 hk5 HBT3 HBS3;go_wp2_with fail;go_roundw
   case rel=>exact⟨i+1,hs++[(k2,fnT (kid i))],k2+1,by omega,by go_num,by simp;omega,by
    show k2+1+2*((i+1:Nat):Int)<=nx+3*(((sumN i fun i=>(kid i).size)+(kid i).size:Nat):Int)
    omega,HF3,HBS5⟩
   case measure=>simp[intOf];omega
  ·
   obtain rfl:i=nk:=by omega
   have hiz:¬ (i:Int)<i:=by omega
   have f0:=HBS.out.goes.cell (p:=⟨w.heap.size,0,none⟩) d0 on;have hszn:=HSZ.out;have hsum:nxi+2*i+3<=nx+3*E.size:=by omega
   have hnk:=HNK.out;have hnk1:1<=i:=by omega
   clear hszn H5 IH HSZ HKS HPOS;obtain⟨o1,m1,V1,bt⟩:=HBS.out;have HBT:=Hd bt;clear bt;subst hnk;obtain⟨⟨k0,F0⟩,rfl⟩:=List.length_eq_one_iff.1 hhl;obtain⟨g,cp,rfl,hcells⟩:=HBS.out.cellsN (i:=1) rfl (by omega);have c0:wy.cell? ⟨g,0,none⟩=some (.int .i64 k0):=hcells 0 (by omega);have HF:Hid (notF F0=fnT E):=Hd (by rw[hF,<- HFS.out 0 (by simp)];rfl);have HN:=Hd (Zzd HKK.out HBT.out.refl (by omega) (k:=k0) (F:=F0) (by simp));clear hcells;go_wp2_with fail;refine HN.out.mono ?_;rintro y w3 ⟨rfl,g3⟩;have HB3:=Hd (HBT.out.go g3);obtain⟨g',cp',ev,hc3⟩:=HB3.out.cellsN (i:=1) rfl (by omega);cases ev;have c3:w3.cell? ⟨g,0,none⟩=some (.int .i64 k0):=hc3 0 (by omega);have HD:=Hd (Znc HKK.out (hs:=[(k0,F0)]) (r:=[(nxi,notF F0)]) (by have:=HB3.out.goes;rw[List.append_assoc] at this;exact this) HB2.out (by omega) (by simp) (T:=w3.alloc (.cells #[.int .i64 k0] 3)) rfl);clear g3 hc3 HN;go_wp2_with fail;refine HD.out.mono ?_;rintro y w4 ⟨rfl,g4⟩;have HFN:=Hd (HQ.out nxi _ w4 _ HF.out (by omega) (by have:=HEP.out;have:=HCK.out 1;omega) g4);clear g4 HD;go_wp2_with fail;exact HFN.out
end
open Go.RowKit
section
variable {K:Law} {n:Nat} {Od:List Nat->Prop} {room:Nat} {w0 w w' w'':World} {mb:Nat} {fs fs':List (Int×BF)} {nx nx':Int} {o o':Own} {m m':ManD} {V V':Nat->BF}
theorem Zuk {w1:World} {op v:Int} {nk:Nat} {kid:Nat->ExT} {a:Option Addr} {c:Nat} {E:ExT} {Q:Ending->World->Prop} {M:Nat} (hctx:BCtx K n Od room w0 mb fs nx M w w1 o m V op v nk kid a c E Q) (h1:op=8\/op=9) (hnk:nk=2) (hF:fnT E=Zo9 op (fnT (kid 0)) (fnT (kid 1))) :
 Calls Tryz.prog 70 #[.pointer (some ⟨mb,0,none⟩),.agg #[.int .i64 op,.int .i64 v,.slice a nk c]] w Q:=by
 obtain⟨HKK,H5,HKS,HSZ,HPOS,IH,HW1,HG1,HSAT1,HWT,HB2,HQ,HMR,HCK,HCI,HEP,HME,hn64,hnx,hE1,hs1,d0,d1,d2,on,hw0,hp2,h2,h3⟩:=hctx;have g1:(op == 1)=false:=by simp;omega
 have g2:(op == 2)=false:=by simp;omega
 have g3:(op == 3)=false:=by simp;omega
 have g5:(op == 5)=false:=by simp;omega
 have g6:(op == 6)=false:=by simp;omega
 have g7:(op == 7)=false:=by simp;omega
 have g4:(op == 4)=false:=by simp;omega
 have g10:(op == 10)=false:=by simp;omega
 have HNK:=Hd hnk;have H1:=Hd h1;clear h1 hnk;obtain⟨w2,hw2⟩:∃ w2,w2=w1.alloc (.cells #[] 3):=⟨_,rfl⟩;have HW2:Hid (_=w2):=Hd hw2.symm;have hb2':Below w1.heap.size w1 w2:=by rw[hw2];exact Zac _ _
 have HBS0:Hid (BuiS K n Od room w0 mb (fs++[]) nx (M+Ze3 n kid 0) o w1 (.slice (some ⟨w.heap.size+1,0,none⟩) 0 0) (([]:List (Int×BF)).map Prod.fst) w2):=Hd ⟨o,m,V,by rw[List.append_nil];exact HSAT1.out.below hb2',HWT.out,Zcj hb2' o,by rw[hw2,<- hs1];exact Zf4 _ _ _ (Nat.le_refl _),fun k hk=>by cases hk;rw[<- hs1];exact HSAT1.out.lt.none (Nat.le_refl _)⟩;have HB12:=Hd hb2';clear hw2 hb2'
 go_enter Tryz.func70,Tryz.ntmps70
 go_upto_region 1 with fail;rw[HW1.out];go_upto_region 23 with fail;rw[HW2.out];have e2:=(HB12.out.cell (p:=⟨w.heap.size,2,none⟩) (Zaa d2)).trans d2;go_wp2_with fail
 go_loopw [15,106] (fun s15 s106 wr=>∃ (i:Nat) (hs:List (Int×BF)) (nxi:Int),i<=nk/\s106=.int .i64 i/\hs.length=i/\nxi+2*i<=nx+3*((sumN i fun i=>(kid i).size:Nat):Int)/\Hid (∀ j (hj:j<hs.length),hs[j].2=fnT (kid j))/\Hid (BuiS K n Od room w0 mb (fs++hs) nxi (M+Ze3 n kid i) o w1 s15 (hs.map Prod.fst) wr)) (fun _ s106 _=>nk-(intOf s106).toNat)
 case atStart=>exact⟨0,[],nx,Nat.zero_le _,rfl,rfl,by show nx+2*((0:Nat):Int)<=nx+3*((0:Nat):Int);omega,Hd (fun j hj=>by simp at hj),HBS0⟩
 case round =>
  clear HBS0 HB12 e2
  rename World=>wy
  obtain⟨i,hs,nxi,hi,rfl,hhl,hnxi,HFS,HBS⟩:=hrel
  by_cases hlt:i<nk
  ·
   obtain⟨b,off,x0,x1,x2,rfl,c0,c1,c2,hx⟩:=H5.out i hlt;have hb0:=HBS.out.goes.below0;have q0:=(hb0.cell (p:=⟨b,off+i*3,none⟩) (Zaa c0)).trans c0;have q1:=(hb0.cell (p:=⟨b,off+i*3+1,none⟩) (Zaa c1)).trans c1;have q2:=(hb0.cell (p:=⟨b,off+i*3+2,none⟩) (Zaa c2)).trans c2;obtain⟨zo,zv,za,zn,zc,rfl,rfl,rfl⟩:=hx.parts;have hiz:(i:Int)<nk:=by omega
   have hks:=HKS.out i hlt;obtain⟨wz,hwz⟩:∃ wz,wz=wy.alloc (.cells #[.int .i64 zo,.int .i64 zv,.slice za zn zc] 86):=⟨_,rfl⟩;have HWZ:Hid (_=wz):=Hd hwz.symm;have hbz:Below wy.heap.size wy wz:=by rw[hwz];exact Zac _ _
   have hblk:wz.heap[wy.heap.size]?=some (.cells #[.int .i64 zo,.int .i64 zv,.slice za zn zc] 86 (0,0)):=by rw[hwz];exact heap_alloc_new _ _
   have p0:wz.cell? ⟨wy.heap.size,0,none⟩=some (.int .i64 zo):=by rw[cell_of_row _ _ 0 _ _ _ hblk];rfl
   have p1:wz.cell? ⟨wy.heap.size,1,none⟩=some (.int .i64 zv):=by rw[cell_of_row _ _ 1 _ _ _ hblk];rfl
   have p2:wz.cell? ⟨wy.heap.size,2,none⟩=some (.slice za zn zc):=by rw[cell_of_row _ _ 2 _ _ _ hblk];rfl
   obtain⟨o1,m1,V1,bt⟩:=HBS.out.below hbz;have hpos:=HPOS.out i;have HCALL:=Hd (IH.out i _ (fs++hs) nxi wz o1 m1 V1 _ hlt bt.sat bt.waits (HB2.out.app _) hx (by omega) (by have:=HMR.out i hlt;have:=HCK.out i;omega));have HBT:=Hd bt;clear hb0 c0 c1 c2 hx bt hwz hbz hblk HBS;go_upto_region 26 with fail;rw[HWZ.out];clear q0 q1 q2;go_wp2_with fail;refine HCALL.out.mono ?_;rintro y w3 ⟨k2,rfl,hk2,gg⟩;have HBS3:=Hd (HBT.out.go (M':=M+Ze3 n kid (i+1)) (gg.more (Nat.le_of_eq (Nat.add_assoc _ _ _))));have HF3:Hid (∀ j (hj:j<(hs++[(k2,fnT (kid i))]).length),(hs++[(k2,fnT (kid i))])[j].2=fnT (kid j)):=Hd fun j hj=>by
    rcases Nat.lt_or_ge j hs.length with h|h
    ·
     rw[List.getElem_append_left h];exact HFS.out j h
    ·
     have hj':j=i:=by simp at hj;omega
     subst hj';rw[List.getElem_append_right (by omega)];simp
   clear gg HCALL HBT p0 p1 p2;obtain⟨o3,m3,V3,bt3⟩:=HBS3.out;have hsz3:w1.heap.size<=w3.heap.size:=bt3.chg.size;have HBT3:=Hd bt3;clear bt3;go_upto_region 30 with (at_builtin;refine Zc5 Znd _ rfl _ _ rfl w1.heap.size _ (Zba (hs.map Prod.fst)) _ rfl rfl rfl rfl rfl (by exact HBT3.out.l.own) (by simp[Zba];omega) hsz3 ?_;intro v5 w5 hown5 r1 r2 r3 r4 hk5)
   have HBS5:Hid (BuiS K n Od room w0 mb (fs++(hs++[(k2,fnT (kid i))])) (k2+1) (M+Ze3 n kid (i+1)) o w1 v5 ((hs++[(k2,fnT (kid i))]).map Prod.fst) w5):=Hd (by
    have:=BuiS.app HBT3.out hown5 r1 r2 r3 r4 hk5 hw0;rw[List.append_assoc] at this;rw[List.map_append];exact this)
   clear hown5 r1 r2 r3 r4 hk5 HBT3 HBS3;go_wp2_with fail;go_roundw
   case rel=>exact⟨i+1,hs++[(k2,fnT (kid i))],k2+1,by omega,by go_num,by simp;omega,by
    show k2+1+2*((i+1:Nat):Int)<=nx+3*(((sumN i fun i=>(kid i).size)+(kid i).size:Nat):Int)
    omega,HF3,HBS5⟩
   case measure=>simp[intOf];omega
  ·
   obtain rfl:i=nk:=by omega
   have hiz:¬ (i:Int)<i:=by omega
   have f0:=HBS.out.goes.cell (p:=⟨w.heap.size,0,none⟩) d0 on;have hszn:=HSZ.out;have hsum:nxi+2*i+3<=nx+3*E.size:=by omega
   have hnk:=HNK.out;have hnk1:1<=i:=by omega
   clear hszn H5 IH HSZ HKS HPOS;obtain⟨o1,m1,V1,bt⟩:=HBS.out;have HBT:=Hd bt;clear bt;subst hnk;obtain⟨⟨k0,F0⟩,⟨k1',F1⟩,rfl⟩:=Yak hhl;obtain⟨g,cp,rfl,hcells⟩:=HBS.out.cellsN (i:=2) rfl (by omega);have c0:wy.cell? ⟨g,0,none⟩=some (.int .i64 k0):=hcells 0 (by omega);have c1:wy.cell? ⟨g,1,none⟩=some (.int .i64 k1'):=hcells 1 (by omega);have HF:Hid (Zo9 op F0 F1=fnT E):=Hd (by rw[hF,<- HFS.out 0 (by simp),<- HFS.out 1 (by simp)];rfl);have HJ:Hid (∀ W,W=wy.drew->Calls Tryz.prog 141 #[.pointer (some ⟨mb,0,none⟩),.int .i64 op,.int .i64 k0,.int .i64 k1'] W fun x w''=>∃ k:Int,x=.returned (.tuple #[.int .i64 k,.bool true])/\k<=nxi+1/\Goes K n Od room w0 mb (fs++[(k,Zo9 op F0 F1)]) (k+1) (NoW (M+Ze3 n kid 2+(2^n-1))) o1 wy w'') :=
    Hd fun W hW=>by subst hW;exact Zrw HKK.out (HBT.out.refl.below (Zaf wy 1)) HB2.out (by omega) (by have:=HEP.out;have:=HCK.out 2;have:=HME.out;omega) (by have:=H1.out;omega) (by have:=H1.out;omega)
   clear hcells;go_upto_region 39 with fail;refine Zap (fun W:World=>W.cell? ⟨w.heap.size,0,none⟩=some (.int .i64 op)/\W.cell? ⟨g,0,none⟩=some (.int .i64 k0)/\W.cell? ⟨g,1,none⟩=some (.int .i64 k1')) false 14
    [(0,false),(1,false),(2,false),(3,false),(4,false),(5,false),(6,false),(7,false),(8,false),(9,true),(10,false),(11,false),(12,false),(13,false)] (by kernel_rfl) (by kernel_rfl) ⟨f0,c0,c1⟩ ?_
   simp only[planned,Zde]
   iterate 9
    refine Zaq rfl ?_;apply Exists.intro;refine⟨fun w' hw=>?_,?_⟩
    ·
     obtain⟨h1,h2,h3⟩:=hw;go_simp;rfl
    simp only[Zag]
   refine Zb7 (R:=fun v w'=>∃ k:Int,v=.tuple #[.int .i64 k,.bool true]/\k<=nxi+1/\Goes K n Od room w0 mb (fs++[(k,Zo9 op F0 F1)]) (k+1) (NoW (M+Ze3 n kid 2+(2^n-1))) o1 wy w') rfl (by go_simp) ((HJ.out _ rfl).mono (fun e w' he=>?_)) ?_
   ·
    obtain⟨k,rfl,q1,q2⟩:=he;have hb:=HBT.out.go q2;obtain⟨g',cp',ev,hc3⟩:=hb.cellsN (i:=2) rfl (by omega);cases ev;exact⟨_,rfl,⟨hb.goes.cell (p:=⟨w.heap.size,0,none⟩) d0 on,hc3 0 (by omega),hc3 1 (by omega)⟩,k,rfl,q1,q2⟩
   rintro v w3-⟨k,rfl,q1,q2⟩;have HFN:=Hd (HQ.out k _ w3 _ HF.out (by omega) (by have:=HEP.out;have:=HCK.out 2;omega) (HBT.out.go q2).goes);clear q2 HJ;simp only[Zag]
   iterate 4
    refine Zaq rfl ?_;apply Exists.intro;refine⟨fun w' hw=>?_,?_⟩
    ·
     obtain⟨h1,h2,h3⟩:=hw;go_simp;rfl
    simp only[Zag]
   refine Zei ?_;go_wp2_with fail;exact HFN.out
end
open Go.RowKit
section
variable {K:Law} {n:Nat} {Od:List Nat->Prop} {room:Nat} {w0 w w' w'':World} {mb:Nat} {fs fs':List (Int×BF)} {nx nx':Int} {o o':Own} {m m':ManD} {V V':Nat->BF}
theorem Zui {w1:World} {op v:Int} {nk:Nat} {kid:Nat->ExT} {a:Option Addr} {c:Nat} {E:ExT} {Q:Ending->World->Prop} {M:Nat} (hctx:BCtx K n Od room w0 mb fs nx M w w1 o m V op v nk kid a c E Q) (h1:op=10) (hnk:nk=3) (hF:fnT E=Zd4 (fnT (kid 0)) (fnT (kid 1)) (fnT (kid 2))) :
 Calls Tryz.prog 70 #[.pointer (some ⟨mb,0,none⟩),.agg #[.int .i64 op,.int .i64 v,.slice a nk c]] w Q:=by
 obtain⟨HKK,H5,HKS,HSZ,HPOS,IH,HW1,HG1,HSAT1,HWT,HB2,HQ,HMR,HCK,HCI,HEP,HME,hn64,hnx,hE1,hs1,d0,d1,d2,on,hw0,hp2,h2,h3⟩:=hctx;have g1:(op == 1)=false:=by simp;omega
 have g2:(op == 2)=false:=by simp;omega
 have g3:(op == 3)=false:=by simp;omega
 have g5:(op == 5)=false:=by simp;omega
 have g6:(op == 6)=false:=by simp;omega
 have g7:(op == 7)=false:=by simp;omega
 have g4:(op == 4)=false:=by simp;omega
 have g10:(op == 10)=true:=by simp;omega
 have HNK:=Hd hnk;clear h1 hnk;obtain⟨w2,hw2⟩:∃ w2,w2=w1.alloc (.cells #[] 3):=⟨_,rfl⟩;have HW2:Hid (_=w2):=Hd hw2.symm;have hb2':Below w1.heap.size w1 w2:=by rw[hw2];exact Zac _ _
 have HBS0:Hid (BuiS K n Od room w0 mb (fs++[]) nx (M+Ze3 n kid 0) o w1 (.slice (some ⟨w.heap.size+1,0,none⟩) 0 0) (([]:List (Int×BF)).map Prod.fst) w2):=Hd ⟨o,m,V,by rw[List.append_nil];exact HSAT1.out.below hb2',HWT.out,Zcj hb2' o,by rw[hw2,<- hs1];exact Zf4 _ _ _ (Nat.le_refl _),fun k hk=>by cases hk;rw[<- hs1];exact HSAT1.out.lt.none (Nat.le_refl _)⟩;have HB12:=Hd hb2';clear hw2 hb2'
 go_enter Tryz.func70,Tryz.ntmps70
 go_upto_region 1 with fail;rw[HW1.out];go_upto_region 23 with fail;rw[HW2.out];have e2:=(HB12.out.cell (p:=⟨w.heap.size,2,none⟩) (Zaa d2)).trans d2;go_wp2_with fail
 go_loopw [15,106] (fun s15 s106 wr=>∃ (i:Nat) (hs:List (Int×BF)) (nxi:Int),i<=nk/\s106=.int .i64 i/\hs.length=i/\nxi+2*i<=nx+3*((sumN i fun i=>(kid i).size:Nat):Int)/\Hid (∀ j (hj:j<hs.length),hs[j].2=fnT (kid j))/\Hid (BuiS K n Od room w0 mb (fs++hs) nxi (M+Ze3 n kid i) o w1 s15 (hs.map Prod.fst) wr)) (fun _ s106 _=>nk-(intOf s106).toNat)
 case atStart=>exact⟨0,[],nx,Nat.zero_le _,rfl,rfl,by show nx+2*((0:Nat):Int)<=nx+3*((0:Nat):Int);omega,Hd (fun j hj=>by simp at hj),HBS0⟩
 case round =>
  clear HBS0 HB12 e2
  rename World=>wy
  obtain⟨i,hs,nxi,hi,rfl,hhl,hnxi,HFS,HBS⟩:=hrel
  by_cases hlt:i<nk
  ·
   obtain⟨b,off,x0,x1,x2,rfl,c0,c1,c2,hx⟩:=H5.out i hlt;have hb0:=HBS.out.goes.below0;have q0:=(hb0.cell (p:=⟨b,off+i*3,none⟩) (Zaa c0)).trans c0;have q1:=(hb0.cell (p:=⟨b,off+i*3+1,none⟩) (Zaa c1)).trans c1;have q2:=(hb0.cell (p:=⟨b,off+i*3+2,none⟩) (Zaa c2)).trans c2;obtain⟨zo,zv,za,zn,zc,rfl,rfl,rfl⟩:=hx.parts;have hiz:(i:Int)<nk:=by omega
   have hks:=HKS.out i hlt;obtain⟨wz,hwz⟩:∃ wz,wz=wy.alloc (.cells #[.int .i64 zo,.int .i64 zv,.slice za zn zc] 86):=⟨_,rfl⟩;have HWZ:Hid (_=wz):=Hd hwz.symm;have hbz:Below wy.heap.size wy wz:=by rw[hwz];exact Zac _ _
   have hblk:wz.heap[wy.heap.size]?=some (.cells #[.int .i64 zo,.int .i64 zv,.slice za zn zc] 86 (0,0)):=by rw[hwz];exact heap_alloc_new _ _
   have p0:wz.cell? ⟨wy.heap.size,0,none⟩=some (.int .i64 zo):=by rw[cell_of_row _ _ 0 _ _ _ hblk];rfl
   have p1:wz.cell? ⟨wy.heap.size,1,none⟩=some (.int .i64 zv):=by rw[cell_of_row _ _ 1 _ _ _ hblk];rfl
   have p2:wz.cell? ⟨wy.heap.size,2,none⟩=some (.slice za zn zc):=by rw[cell_of_row _ _ 2 _ _ _ hblk];rfl
   obtain⟨o1,m1,V1,bt⟩:=HBS.out.below hbz;have hpos:=HPOS.out i;have HCALL:=Hd (IH.out i _ (fs++hs) nxi wz o1 m1 V1 _ hlt bt.sat bt.waits (HB2.out.app _) hx (by omega) (by have:=HMR.out i hlt;have:=HCK.out i;omega));have HBT:=Hd bt;clear hb0 c0 c1 c2 hx bt hwz hbz hblk HBS;go_upto_region 26 with fail;rw[HWZ.out];clear q0 q1 q2;go_wp2_with fail;refine HCALL.out.mono ?_;rintro y w3 ⟨k2,rfl,hk2,gg⟩;have HBS3:=Hd (HBT.out.go (M':=M+Ze3 n kid (i+1)) (gg.more (Nat.le_of_eq (Nat.add_assoc _ _ _))));have HF3:Hid (∀ j (hj:j<(hs++[(k2,fnT (kid i))]).length),(hs++[(k2,fnT (kid i))])[j].2=fnT (kid j)):=Hd fun j hj=>by
    rcases Nat.lt_or_ge j hs.length with h|h
    ·
     rw[List.getElem_append_left h];exact HFS.out j h
    ·
     have hj':j=i:=by simp at hj;omega
     subst hj';rw[List.getElem_append_right (by omega)];simp
   clear gg HCALL HBT p0 p1 p2;obtain⟨o3,m3,V3,bt3⟩:=HBS3.out;have hsz3:w1.heap.size<=w3.heap.size:=bt3.chg.size;have HBT3:=Hd bt3;clear bt3;go_upto_region 30 with (at_builtin;refine Zc5 Znd _ rfl _ _ rfl w1.heap.size _ (Zba (hs.map Prod.fst)) _ rfl rfl rfl rfl rfl (by exact HBT3.out.l.own) (by simp[Zba];omega) hsz3 ?_;intro v5 w5 hown5 r1 r2 r3 r4 hk5)
   have HBS5:Hid (BuiS K n Od room w0 mb (fs++(hs++[(k2,fnT (kid i))])) (k2+1) (M+Ze3 n kid (i+1)) o w1 v5 ((hs++[(k2,fnT (kid i))]).map Prod.fst) w5):=Hd (by
    have:=BuiS.app HBT3.out hown5 r1 r2 r3 r4 hk5 hw0;rw[List.append_assoc] at this;rw[List.map_append];exact this)
   clear hown5 r1 r2 r3 r4 hk5 HBT3 HBS3;go_wp2_with fail;go_roundw
   case rel=>exact⟨i+1,hs++[(k2,fnT (kid i))],k2+1,by omega,by go_num,by simp;omega,by
    show k2+1+2*((i+1:Nat):Int)<=nx+3*(((sumN i fun i=>(kid i).size)+(kid i).size:Nat):Int)
    omega,HF3,HBS5⟩
   case measure=>simp[intOf];omega
  ·
   obtain rfl:i=nk:=by omega
   have hiz:¬ (i:Int)<i:=by omega
   have f0:=HBS.out.goes.cell (p:=⟨w.heap.size,0,none⟩) d0 on;have hszn:=HSZ.out;have hsum:nxi+2*i+3<=nx+3*E.size:=by omega
   have hnk:=HNK.out;have hnk1:1<=i:=by omega
   clear hszn H5 IH HSZ HKS HPOS;obtain⟨o1,m1,V1,bt⟩:=HBS.out;have HBT:=Hd bt;clear bt;subst hnk;obtain⟨⟨k0,F0⟩,⟨k1',F1⟩,⟨k2',F2⟩,rfl⟩:=Zvi hhl;obtain⟨g,cp,rfl,hcells⟩:=HBS.out.cellsN (i:=3) rfl (by omega);have c0:wy.cell? ⟨g,0,none⟩=some (.int .i64 k0):=hcells 0 (by omega);have c1:wy.cell? ⟨g,1,none⟩=some (.int .i64 k1'):=hcells 1 (by omega);have c2:wy.cell? ⟨g,2,none⟩=some (.int .i64 k2'):=hcells 2 (by omega);have HF:Hid (Zd4 F0 F1 F2=fnT E):=Hd (by rw[hF,<- HFS.out 0 (by simp),<- HFS.out 1 (by simp),<- HFS.out 2 (by simp)];rfl);have HI:Hid (∀ W,W=wy.drew->Calls Tryz.prog 21 #[.pointer (some ⟨mb,0,none⟩),.int .i64 k0,.int .i64 k1',.int .i64 k2'] W fun x w''=>x=.returned (.tuple #[.int .i64 nxi,.int .i64 0])/\Goes K n Od room w0 mb (fs++[(k0,F0),(k1',F1),(k2',F2)]++[(nxi,Zd4 F0 F1 F2)]) (nxi+1) (NoW (M+Ze3 n kid 3+(2^n-1))) o1 wy w'') :=
    Hd fun W hW=>by subst hW;exact Zve HKK.out (HBT.out.refl.below (Zaf wy 1)) (by omega) (by have:=HEP.out;have:=HCK.out 3;have:=HME.out;omega) (by simp) (by simp) (by simp)
   clear hcells;go_upto_region 36 with fail;refine Zap (fun W:World=>W.cell? ⟨g,0,none⟩=some (.int .i64 k0)/\W.cell? ⟨g,1,none⟩=some (.int .i64 k1')/\W.cell? ⟨g,2,none⟩=some (.int .i64 k2')) false 16
    [(0,false),(1,false),(2,false),(3,false),(4,false),(5,false),(6,false),(7,false),(8,false),(9,false),(10,true),(11,false),(12,false),(13,false),(14,false),(15,false)] (by kernel_rfl) (by kernel_rfl) ⟨c0,c1,c2⟩ ?_
   simp only[planned,Zde]
   iterate 10
    refine Zaq rfl ?_;apply Exists.intro;refine⟨fun w' hw=>?_,?_⟩
    ·
     obtain⟨h1,h2,h3⟩:=hw;go_simp;rfl
    simp only[Zag]
   refine Zb7 (R:=fun v w'=>v=.tuple #[.int .i64 nxi,.int .i64 0]/\Goes K n Od room w0 mb (fs++[(k0,F0),(k1',F1),(k2',F2)]++[(nxi,Zd4 F0 F1 F2)]) (nxi+1) (NoW (M+Ze3 n kid 3+(2^n-1))) o1 wy w') rfl (by go_simp) ((HI.out _ rfl).mono (fun e w' he=>?_)) ?_
   ·
    obtain⟨rfl,q2⟩:=he;have hb:=HBT.out.go q2;obtain⟨g',cp',ev,hc3⟩:=hb.cellsN (i:=3) rfl (by omega);cases ev;exact⟨_,rfl,⟨hc3 0 (by omega),hc3 1 (by omega),hc3 2 (by omega)⟩,rfl,q2⟩
   rintro v w3 ⟨d0',d1',d2'⟩ ⟨rfl,q2⟩;obtain⟨o3,m3,V3,bt3⟩:=HBT.out.go q2;have HBT3:=Hd bt3;clear q2 HI bt3 c0 c1 c2 HBS;simp only[Zag]
   iterate 5
    refine Zaq rfl ?_;apply Exists.intro;refine⟨fun w' hw=>?_,?_⟩
    ·
     obtain⟨h1,h2,h3⟩:=hw;go_simp;rfl
    simp only[Zag]
   refine Zei ?_;have HD:Hid (∀ W T,Below w3.heap.size w3 W->T=W.alloc (.cells #[.int .i64 k0,.int .i64 k1',.int .i64 k2'] 3)->Calls Tryz.prog 50 #[.pointer (some ⟨mb,0,none⟩),.slice (some ⟨W.heap.size,0,none⟩) 3 3] T fun x w''=>x=.returned (.int .i64 0)/\Goes K n Od room w0 mb (fs++[(nxi,Zd4 F0 F1 F2)]) (nxi+1) (NoW (M+Ze3 n kid 3+(2^n-1))) o3 w3 w'') :=
    Hd fun W T hW hT=>Znc HKK.out (hs:=[(k0,F0),(k1',F1),(k2',F2)]) (r:=[(nxi,Zd4 F0 F1 F2)]) (by have:=HBT3.out.refl;rw[List.append_assoc] at this;exact this.below hW) HB2.out (by omega) (by simp) hT
   go_upto_region 37 with fail;refine Zap (fun W:World=>W.cell? ⟨g,0,none⟩=some (.int .i64 k0)/\W.cell? ⟨g,1,none⟩=some (.int .i64 k1')/\W.cell? ⟨g,2,none⟩=some (.int .i64 k2')) false 20
    [(0,false),(1,false),(2,false),(3,false),(4,false),(5,false),(6,false),(7,false),(8,false),(9,false),(10,false),(11,false),(12,false),(13,false),(14,true),(15,true),(16,false),(17,false),(18,false),(19,false)] (by kernel_rfl) (by kernel_rfl) ⟨d0',d1',d2'⟩ ?_
   simp only[planned,Zde]
   iterate 4
    refine Zaq rfl ?_;apply Exists.intro;refine⟨fun w' hw=>?_,?_⟩
    ·
     obtain⟨h1,h2,h3⟩:=hw;go_simp;rfl
    simp only[Zag]
   iterate 10
    refine Zi4 true (by go_simp) ?_;apply Exists.intro;refine⟨fun hgd w' hw=>?_,?_⟩
    ·
     obtain⟨h1,h2,h3⟩:=hw;go_simp;rfl
    simp only[Zag]
   have hbn:=Zac w3.drew (.cells #[.int .i64 k0,.int .i64 k1',.int .i64 k2'] 3);refine Zte (v:=.slice (some ⟨w3.heap.size,0,none⟩) 3 3) (w':=w3.drew.alloc (.cells #[.int .i64 k0,.int .i64 k1',.int .i64 k2'] 3)) (by go_simp) (by go_simp) ⟨(hbn.cell (p:=⟨g,0,none⟩) (Zaa (w:=w3.drew) d0')).trans d0',(hbn.cell (p:=⟨g,1,none⟩) (Zaa (w:=w3.drew) d1')).trans d1',(hbn.cell (p:=⟨g,2,none⟩) (Zaa (w:=w3.drew) d2')).trans d2'⟩ ?_;simp only[Zag];refine Ztd (R:=fun v w'=>v=.int .i64 0/\Goes K n Od room w0 mb (fs++[(nxi,Zd4 F0 F1 F2)]) (nxi+1) (NoW (M+Ze3 n kid 3+(2^n-1))) o3 w3 w') (by go_simp) (by go_simp) ((HD.out w3.drew _ (Zaf w3 1) rfl).mono (fun e w' he=>?_)) ?_
   ·
    obtain⟨rfl,q2⟩:=he;have hb:=HBT3.out.go q2;obtain⟨g',cp',ev,hc3⟩:=hb.cellsN (i:=3) rfl (by omega);cases ev;exact⟨_,rfl,⟨hc3 0 (by omega),hc3 1 (by omega),hc3 2 (by omega)⟩,rfl,q2⟩
   rintro v w4-⟨rfl,q2⟩;have HFN:=Hd (HQ.out nxi _ w4 _ HF.out (by omega) (by have:=HEP.out;have:=HCK.out 3;omega) (HBT3.out.go q2).goes);clear q2 HD;simp only[Zag]
   iterate 1
    refine Zi4 true (by go_simp) ?_;apply Exists.intro;refine⟨fun hgd w' hw=>?_,?_⟩
    ·
     obtain⟨h1,h2,h3⟩:=hw;go_simp;rfl
    simp only[Zag]
   iterate 3
    refine Zaq rfl ?_;apply Exists.intro;refine⟨fun w' hw=>?_,?_⟩
    ·
     obtain⟨h1,h2,h3⟩:=hw;go_simp;rfl
    simp only[Zag]
   refine Zei ?_;go_wp2_with fail;exact HFN.out
end
open Go.RowKit
section
variable {K:Law} {n:Nat} {Od:List Nat->Prop} {room:Nat} {w0:World} {mb:Nat}
theorem Zol (hK:Zb3 K):∀ (e:ExT) (x:Value) (fs:List (Int×BF)) (nx:Int) (w:World) (o:Own) (m:ManD) (V:Nat->BF) (M:Nat),SatE K n Od room w0 mb fs nx w o m V->m.waits=[]/\m.d.pool.many<=M->B2 fs->Zsf e->(∀ v∈Zc4 e,v<(n:Int))->Zbb w0 e x->nx+3*e.size<549755813000->M+e.size*2^n<=room ->
 Calls Tryz.prog 70 #[.pointer (some ⟨mb,0,none⟩),x] w fun y w'=>∃ k:Int,y=.returned (.tuple #[.int .i64 k,.bool true])/\k+3<=nx+3*e.size/\Goes K n Od room w0 mb (fs++[(k,fnT e)]) (k+1) (NoW (M+Zhu n e.size)) o w w'
 | .nil,x,fs,nx,w,o,m,V,M,_,_,_,hv,_,_,_,_=>hv.elim
 | .mk op v nk kid,x,fs,nx,w,o,m,V,M,hsat,hwt,hb2,hval,hvars,h,hnx,hroom=>by
   unfold Zbb at h;obtain⟨a,c,rfl,h2,h3,h4,h5⟩:=h;obtain⟨v1,v2,v3,v4,v5,v6⟩:=hval;obtain⟨k1,k2,k3⟩:=Zvg v1;have hblk:(w.alloc (.cells #[.int .i64 op,.int .i64 v,.slice a nk c] 86)).heap[w.heap.size]?=some (.cells #[.int .i64 op,.int .i64 v,.slice a nk c] 86 (0,0)):=heap_alloc_new _ _;have hb1:=Zac w (.cells #[.int .i64 op,.int .i64 v,.slice a nk c] 86);have hep:(ExT.mk op v nk kid).size*2^n=2^n+(sumN nk fun i=>(kid i).size)*2^n:=by
    show (1+sumN nk fun i=>(kid i).size)*2^n=_
    rw[Nat.add_mul,Nat.one_mul]
   have hctx:BCtx K n Od room w0 mb fs nx M w (w.alloc (.cells #[.int .i64 op,.int .i64 v,.slice a nk c] 86)) o m V op v nk kid a c (ExT.mk op v nk kid) (fun y w'=>∃ k:Int,y=.returned (.tuple #[.int .i64 k,.bool true])/\k+3<=nx+3*(ExT.mk op v nk kid).size/\Goes K n Od room w0 mb (fs++[(k,fnT (ExT.mk op v nk kid))]) (k+1) (NoW (M+Zhu n (ExT.mk op v nk kid).size)) o w w'):=by
    refine⟨Hd hK,Hd h5,Hd fun i hi=>?_,Hd rfl,Hd (Zsc fun i=>(kid i).size_pos),Hd fun i x fs' nx' W o' m' V' M' hi q1 q2 q3 q4 q5 q6=>Zol hK (kid i) x fs' nx' W o' m' V' M' q1 q2 q3 (v6 i hi) (fun u hu=>hvars u (by unfold Zc4;exact List.mem_append_right _ (Zpj hi hu))) q4 q5 q6,Hd rfl,Hd (Goes.refl (hsat.below hb1) hwt),Hd (hsat.below hb1),Hd hwt,Hd hb2,Hd ?_,Hd fun i hi=>?_,Hd (Zop n kid),Hd fun i=>Zia n (kid i).size_pos,Hd ⟨hep,Zia n (ExT.size_pos _)⟩,Hd hroom,by omega,hnx,ExT.size_pos _,by simp,by rw[cell_of_row _ _ 0 _ _ _ hblk];rfl,by rw[cell_of_row _ _ 1 _ _ _ hblk];rfl,by rw[cell_of_row _ _ 2 _ _ _ hblk];rfl,hsat.lt.none (Nat.le_refl _),?_,Nat.pow_pos (by omega),h2,h3⟩
    ·
     have:=Zf9 (f:=fun i=>(kid i).size) hi
     show _<=1+sumN nk fun i=>(kid i).size
     omega
    ·
     rintro k F W M' rfl hk hm g;exact⟨k,rfl,hk,(g.more hm).after (Zcj hb1 o)⟩
    ·
     have h1:=Zf9 (f:=fun i=>(kid i).size) hi;have h2:=Nat.mul_le_mul_right (2^n) h1;rw[Nat.add_mul] at h2;omega
    ·
     have:=hsat.chg.size;simp;omega
   rcases(show op=1\/op=2\/op=3\/(op=5\/op=6\/op=7)\/op=4\/(op=8\/op=9)\/op=10 by omega) with h1|h1|h1|h1|h1|h1|h1
   ·
    exact Zso hctx h1 (by subst h1;exact Zo0 (.inl rfl) v nk kid)
   ·
    exact Zqm hctx h1 (by subst h1;exact Zo0 (.inr rfl) v nk kid)
   ·
    have e1:=v2 h1;have e2:=hvars v (by unfold Zc4;rw[if_pos h1];simp);obtain⟨u,rfl⟩:∃ u:Nat,v=u:=⟨v.toNat,by omega⟩;exact Zul hctx (u:=u) (by omega) h1 rfl (by subst h1;exact Yac u nk kid)
   ·
    exact Zuh hctx h1 (Zz9 h1 v nk kid)
   ·
    have e:nk=1:=by subst h1;simp[Zeu] at v4 v5;omega
    exact Zuj hctx h1 e (by subst h1;subst e;exact Yab v kid)
   ·
    have e:nk=2:=by rcases h1 with rfl|rfl<;>(simp[Zeu] at v4 v5;omega)
    exact Zuk hctx h1 e (by subst e;exact Zxl h1 v kid)
   ·
    have e:nk=3:=by subst h1;simp[Zeu] at v4 v5;omega
    exact Zui hctx h1 e (by subst h1;subst e;exact Yaa v kid)
end
open Go.RowKit
theorem Zay.chgX {C:Nat->Prop} {o o':Own} {w w':World} {a:Option Addr} {zs:List Int} (h:Zay w a zs) (hc:ChgX C o o' w w') (hn:0<zs.length->∀ x,a=some x->o x.block=none/\¬ C x.block):Zay w' a zs :=
 ⟨h.len,fun k hk=>by
  obtain⟨b,off,rfl,c⟩:=h.cells k hk;have:=hn (by omega) _ rfl;exact⟨b,off,rfl,hc.cell c this.1 this.2⟩⟩
def ArrI (K:Law) (n room:Nat) (w0:World) (mb:Nat) (fs:List (Int×BF)) (nx:Int) (o:Own) (w:World) (m:ManD) (P:List Nat->Prop) (W:World):Prop :=
 ∃ o' m' V',SatE K n P room w0 mb fs nx W o' m' V'/\m'.waits=m.waits/\m'.calls=m.calls/\ChgX NoB o o' w W/\(m'.d.pool.many<=m.d.pool.many\/m'.d.pool.many<=fs.length*2^n)
section
variable {K:Law} {n:Nat} {Od:List Nat->Prop} {room:Nat} {w0 w w':World} {mb:Nat} {fs:List (Int×BF)} {nx:Int} {o o':Own} {m m':ManD} {V V':Nat->BF} {P:List Nat->Prop} {W W':World}
theorem ArrI.below (h:ArrI K n room w0 mb fs nx o w m P W) (hb:Below W.heap.size W W'):ArrI K n room w0 mb fs nx o w m P W':=by
 obtain⟨o',m',V',h1,h2,h3,h4,h5⟩:=h;exact⟨o',m',V',h1.below hb,h2,h3,h4.trans (Zcj hb o') (fun _ _ e=>e),h5⟩
theorem ArrI.imp (h:ArrI K n room w0 mb fs nx o w m P W) {P':List Nat->Prop} (hP:∀ l,l.length=n->P l->P' l):ArrI K n room w0 mb fs nx o w m P' W:=by
 obtain⟨o',m',V',h1,h2,h3,h4,h5⟩:=h;exact⟨o',m',V',h1.withOd (hP _ h1.vars h1.od),h2,h3,h4,h5⟩
theorem ArrI.swap (h:ArrI K n room w0 mb fs nx o w m P W) {k:Nat} (hk1:k+1<n) (hn:nx<=549755813888) (hr:3*(fs.length*2^n)<=room) {P':List Nat->Prop} (hP:∀ l,l.length=n->P l->P' (exL l k)) :
 Calls Tryz.prog 138 #[.pointer (some ⟨mb,0,none⟩),.int .i64 k] W fun e w'=>e=.returned (.int .i64 0)/\ArrI K n room w0 mb fs nx o w m P' w':=by
 obtain⟨o',m',V',h1,h2,h3,h4,h5⟩:=h;refine(Ztb h1 hk1 hn hr).mono ?_;rintro e w' ⟨rfl,o2,m2,V2,s⟩;refine⟨rfl,o2,m2,V2,s.sat.withOd ?_,s.waits.trans h2,s.calls.trans h3,h4.trans (ChgX.of_chg s.chg NoB) (fun _ _ e=>e),.inr (s.sat.few s.dead)⟩;rw[s.sat.od,Zwt];exact hP _ h1.vars h1.od
theorem Zqj (h:SatE K n Od room w0 mb fs nx w o m V) (hn:nx<=549755813888) (hr:3*(fs.length*2^n)<=room) {a:Option Addr} {c:Nat} {zs:List Int} (hz:Zay w a zs) (hno:0<zs.length->∀ x,a=some x->o x.block=none) (hp:zs.length=0\/Zzp zs n) :
 Calls Tryz.prog 69 #[.pointer (some ⟨mb,0,none⟩),.slice a zs.length c] w fun x w'=>x=.returned (.bool true)/\ArrI K n room w0 mb fs nx o w m (fun l=>∀ j,j<zs.length->((l.getD j 0:Nat):Int)=at0 zs j) w':=by
 have hlen:=hz.len;have hn64:n<=64:=by have:=h.ok.store.small;rw[h.vars] at this;exact this
 have HZ:Hid (∀ W P,ArrI K n room w0 mb fs nx o w m P W->Zay W a zs):=Hd fun W P ⟨o',m',V',_,_,_,h4,_⟩=>hz.chgX h4 fun h0 x hx=>⟨hno h0 x hx,fun e=>e⟩
 have HORD:Hid (∀ W P,ArrI K n room w0 mb fs nx o w m P W->Calls Tryz.prog 45 #[.pointer (some ⟨mb,0,none⟩)] W fun x w'=>∃ (a:Option Addr) (c:Nat) (l:List Nat),x=.returned (.slice a n c)/\l.length=n/\Zay w' a (l.map Int.ofNat)/\P l/\(∀ v,v<n->∃ i,i<n/\l.getD i 0=v)/\(∀ i j,i<n->j<n->l.getD i 0=l.getD j 0->i=j)/\Below W.heap.size W w'/\ArrI K n room w0 mb fs nx o w m (fun l'=>l'=l) w'):=by
  refine Hd fun W P hA=>?_
  obtain⟨o',m',V',h1,h2,h3,h4,h5⟩:=hA;refine(Zph h1.is h1.lt (by rw[h1.vars];exact hn64)).mono ?_;rintro x w' ⟨v,rfl,hv,hb⟩;obtain⟨av,cv,rfl,hva,_⟩:=hv.sliceIs (by simp[h1.vars];omega);refine⟨av,cv,m'.d.vars,by rw[List.length_map,h1.vars],h1.vars,hva,h1.od,fun v hv=>?_,fun i j hi hj e=>?_,hb,o',m',V',(h1.below hb).withOd rfl,h2,h3,h4.trans (Zcj hb o') (fun _ _ e=>e),h5⟩
  ·
   have:=h1.ok.store.mem (v:=v) (by rw[h1.vars];exact hv);rw[h1.vars] at this;exact this
  ·
   exact h1.ok.store.inj (by rw[h1.vars];exact hi) (by rw[h1.vars];exact hj) e
 have HSW:Hid (∀ W P,ArrI K n room w0 mb fs nx o w m P W->∀ (k:Nat),k+1<n->∀ P':List Nat->Prop,(∀ l,l.length=n->P l->P' (exL l k))->Calls Tryz.prog 138 #[.pointer (some ⟨mb,0,none⟩),.int .i64 k] W fun e w'=>e=.returned (.int .i64 0)/\ArrI K n room w0 mb fs nx o w m P' w') :=
  Hd fun W P hA k hk P' hP=>hA.swap hk hn hr hP
 have HP:=Hd hp;obtain⟨R,hR⟩:∃ R:(List Nat->Prop)->World->Prop,R=ArrI K n room w0 mb fs nx o w m:=⟨_,rfl⟩;have HR0:Hid (R (fun l=>∀ j,j<0->((l.getD j 0:Nat):Int)=at0 zs j) w):=Hd (by rw[hR];exact⟨o,m,V,h.withOd (fun j hj=>by omega),rfl,rfl,ChgX.of_below (Below.refl _ _) o NoB,.inl (Nat.le_refl _)⟩);have HRB:Hid (∀ P W W',R P W->Below W.heap.size W W'->R P W'):=Hd (by rw[hR];intro P W W' h1 h2;exact h1.below h2);have HRM:Hid (∀ P P' W,R P W->(∀ l,l.length=n->P l->P' l)->R P' W):=Hd (by rw[hR];intro P P' W h1 h2;exact h1.imp h2);rw[<- hR] at HZ HORD HSW ⊢;clear h hz hno hp hr hn hR
 go_enter Tryz.func69,Tryz.ntmps69
 go_wp2_with fail
 go_loopw [5,6,7] (fun s5 s6 s7 wr=>∃ i:Nat,i<=zs.length/\s5=.int .i64 i/\Hid (R (fun l=>∀ j,j<i->((l.getD j 0:Nat):Int)=at0 zs j) wr)) (fun s5 _ _ _=>zs.length-(intOf s5).toNat)
 case atStart=>exact⟨0,Nat.zero_le _,rfl,HR0⟩
 case round =>
  obtain⟨i,hi,rfl,HR⟩:=hrel
  by_cases hlt:i<zs.length
  ·
   have hiz:(i:Int)<zs.length:=by omega
   have hperm:Zzp zs n:=by
    rcases HP.out with e|e
    ·
     omega
    ·
     exact e
   have hzn:zs.length=n:=hperm.len;obtain⟨zi,hzi,ezi⟩:=hperm.lt i (by omega);have HOR:=Hd (HORD.out wr _ HR.out);have HINJ:=Hd hperm.inj;clear hperm;go_wp2_with fail;refine HOR.out.mono ?_;rintro x w3 ⟨av,cv,l,rfl,hll,hla,hod,hmem,hinj,hb3,hr3⟩;obtain⟨p,hpn,hpe⟩:=hmem zi hzi;have hip:i<=p:=by
    rcases Nat.lt_or_ge p i with h|h
    ·
     exfalso;have e1:=hod p h;rw[hpe,<- ezi] at e1;have:=HINJ.out i p (by omega) hpn e1;omega
    ·
     exact h
   have HLA:=Hd hla;have HOD:=Hd hod;have HPE:=Hd hpe;have HIJ:=Hd hinj;have HR3:=Hd hr3;have hnn:((n:Int) != (zs.length:Int))=false:=by rw[hzn];simp
   obtain⟨bz,oz,ea,cz⟩:=(HZ.out w3 _ hr3).cells i hlt;subst ea;rw[ezi] at cz;have EZI:=Hd ezi;clear hla hod hpe hinj hr3 hmem HOR hb3 ezi;go_wp2_with fail
   go_loopw [7] (fun s7 wr=>∃ q:Nat,i<=q/\q<=p/\s7=.int .i64 q/\Hid (Below w3.heap.size w3 wr)) (fun s7 _=>p-(intOf s7).toNat)
   case atStart=>exact⟨i,Nat.le_refl _,hip,rfl,Hd (Below.refl _ _)⟩
   case round =>
    rename World=>wq
    obtain⟨q,hq1,hq2,rfl,HBQ⟩:=hrel;have hqn:(q:Int)<(n:Int):=by omega
    have hqn':q<n:=by omega
    obtain⟨bv,ov,rfl,cq⟩:=(HLA.out.below HBQ.out).cells q (by rw[List.length_map,hll];exact hqn');have cz':=(HBQ.out.cell (p:=⟨bz,oz+i,none⟩) (Zaa cz)).trans cz;rw[Zzt (by rw[hll];exact hqn')] at cq;obtain⟨y,hy⟩:∃ y,y=l.getD q 0:=⟨_,rfl⟩;rw[<- hy] at cq;have HY:=Hd hy;clear hy;go_upto_region 8 with fail;refine Zap (fun W:World=>W.cell? ⟨bv,ov+q,none⟩=some (.int .i64 (y:Nat))/\W.cell? ⟨bz,oz+i,none⟩=some (.int .i64 (zi:Nat))/\Hid (Below w3.heap.size w3 W)) false 15
     [(0,false),(1,false),(2,false),(3,false),(4,false),(5,false),(6,false),(7,false),(8,false),(9,false),(10,false),(11,false),(12,false),(13,false),(14,false)] (by kernel_rfl) (by kernel_rfl) ⟨cq,cz',Hd (HBQ.out.trans ((Zaf wq 1).mono HBQ.out.size))⟩ ?_
    simp only[planned,Zde]
    iterate 5
     refine Zaq rfl ?_;apply Exists.intro;refine⟨fun w' hw=>?_,?_⟩
     ·
      obtain⟨h1,h2,_⟩:=hw;go_simp;rfl
     simp only[Zag]
    iterate 9
     refine Zi4 true (by go_simp) ?_;apply Exists.intro;refine⟨fun hgd w' hw=>?_,?_⟩
     ·
      obtain⟨h1,h2,_⟩:=hw;go_simp;rfl
     simp only[Zag]
    iterate 1
     refine Zaq rfl ?_;apply Exists.intro;refine⟨fun w' hw=>?_,?_⟩
     ·
      obtain⟨h1,h2,_⟩:=hw;go_simp;rfl
     simp only[Zag]
    refine Zei ?_
    by_cases hqp:q<p
    ·
     have hne:((y:Int) != (zi:Int))=true:=by
      simp only[bne_iff_ne,ne_eq];intro e;have e2:l.getD q 0=l.getD p 0:=by rw[HPE.out,<- HY.out];omega
      have:=HIJ.out q p hqn' hpn e2;omega
     go_wp2_with fail;go_roundw
     case rel=>exact⟨q+1,by omega,by omega,by go_num,Hd (HBQ.out.trans ((Zaf wq 1).mono HBQ.out.size))⟩
     case measure=>simp[intOf];omega
    ·
     obtain rfl:q=p:=by omega
     have hne:((y:Int) != (zi:Int))=false:=by
      have:y=zi:=by rw[HY.out,HPE.out]
      rw[this];simp
     have hqe:((q:Int) == (n:Int))=false:=by simp;omega
     have HR4:Hid (R (fun l'=>(∀ j,j<i->((l'.getD j 0:Nat):Int)=at0 zs j)/\l'.getD q 0=zi) wq.drew):=Hd (by
      have h1:=HRB.out _ _ _ HR3.out (HBQ.out.trans ((Zaf wq 1).mono HBQ.out.size));exact HRM.out _ _ _ h1 fun l' _ e=>by subst e;exact⟨HOD.out,HPE.out⟩)
     rw[hne];clear HR3 HBQ HLA cq cz cz' hne;go_wp2_with fail
     go_loopw [4,7] (fun s4 s7 wr=>∃ q:Nat,i<=q/\q<n/\s7=.int .i64 q/\Hid (R (fun l'=>(∀ j,j<i->((l'.getD j 0:Nat):Int)=at0 zs j)/\l'.getD q 0=zi) wr)) (fun _ s7 _=>(intOf s7).toNat)
     case atStart=>exact⟨q,hq1,hqn',rfl,HR4⟩
     case round =>
      clear HR4 HY HPE
      rename World=>wt
      obtain⟨t,ht1,ht2,rfl,HRT⟩:=hrel
      by_cases hti:i<t
      ·
       obtain⟨t',rfl⟩:∃ t',t=t'+1:=⟨t-1,by omega⟩;have htz:((t'+1:Nat):Int)>i:=by omega
       have HS:=Hd (HSW.out wt _ HRT.out t' ht2 (fun l'=>(∀ j,j<i->((l'.getD j 0:Nat):Int)=at0 zs j)/\l'.getD t' 0=zi) (fun l' hl ⟨g1,g2⟩=>⟨fun j hj=>by rw[Ybh (by omega) (by omega)];exact g1 j hj,by rw[Zxj (by omega)];exact g2⟩));have hsub:((t'+1:Nat):Int)-1=(t':Nat):=by omega
       go_upto_region 14 with fail;go_wp2_with fail;refine HS.out.mono ?_;rintro x w5 ⟨rfl,hr5⟩;have HR5:=Hd hr5;clear hr5 HS HRT;go_wp2_with fail;go_roundw
       case rel=>exact⟨t',by omega,by omega,by go_num,HR5⟩
       case measure=>simp[intOf]
      ·
       obtain rfl:t=i:=by omega
       have HR6:Hid (R (fun l=>∀ j,j<t+1->((l.getD j 0:Nat):Int)=at0 zs j) wt):=Hd (by
        refine HRM.out _ _ _ HRT.out fun l' _ ⟨g1,g2⟩ j hj=>?_
        rcases Nat.lt_or_ge j t with h|h
        ·
         exact g1 j h
        ·
         obtain rfl:j=t:=by omega
         rw[g2,EZI.out])
       have htz:¬ (t:Int)>t:=by omega
       go_wp2_with fail;go_roundw
       case rel=>exact⟨t+1,by omega,by go_num,HR6⟩
       case measure=>simp[intOf];omega
  ·
   have he:i=zs.length:=by omega
   have hiz:¬ (i:Int)<zs.length:=by omega
   go_wp2_with fail;go_ret;exact⟨rfl,by rw[<- he];exact HR.out⟩
end
open Go.RowKit
theorem Zs6 (i n:Nat) (hi:i<=1048576) (hn:n<=16) (w:World):Calls Tryz.prog 129 #[.int .i64 i,.int .i64 n] w fun x w'=>∃ v,x=.returned v/\OwnB w' w.heap.size v (Zce i n)/\Below w.heap.size w w':=by
 go_enter Tryz.func129,Tryz.ntmps129
 go_wp2_with fail
 go_loopw [0,5,6] (fun s0 s5 s6 wr=>∃ j q:Nat,j<=n/\q<=1048576/\s6=.int .i64 j/\s0=.int .i64 q/\Hid (i/2^j=q)/\OwnB wr w.heap.size s5 (Zce i j)/\w.heap.size<=wr.heap.size/\Below w.heap.size w wr) (fun _ _ s6 _=>n-(intOf s6).toNat)
 case atStart=>exact⟨0,i,Nat.zero_le _,hi,rfl,rfl,Hd (by simp),Zf4 _ w _ (Nat.le_refl _),by simp,Zac w _⟩
 case round =>
  obtain⟨j,q,hj,hq,rfl,rfl,HQ,hown,hsz,hbel⟩:=hrel
  by_cases hlt:j<n
  ·
   have HB:Hid (((q:Int).tmod 2 == 1)=bitB i j):=by
    refine Hd ?_;rw[tmod2];unfold bitB;rw[HQ.out]
   have HOWN:=Hd hown;have HBEL:=Hd hbel;clear hown hbel;go_wp2_with (at_builtin;refine Zc5 Ze8 _ rfl _ _ rfl w.heap.size _ (Zbx (Zce i j)) _ rfl rfl rfl rfl rfl (by exact HOWN.out) (by simp[Zbx,Ze7];omega) hsz ?_;intro v1 w1 hown1 e1 e2 e3 e4 hk1);go_roundw
   case rel =>
    refine⟨j+1,q/2,by omega,by omega,by go_num,by go_num,Hd ?_,?_,by omega,Zh7 HBEL.out HOWN.out e1 e2 e3 e4 hk1 hsz⟩
    ·
     rw[Nat.pow_succ,<- Nat.div_div_eq_div_mul,HQ.out]
    ·
     rw[Zmc];unfold OwnB;rw[Zhq,<- HB.out];exact hown1
   case measure=>simp[intOf];omega
  ·
   have he:j=n:=by omega
   subst he;have HOWN:=Hd hown;have HBEL:=Hd hbel;clear hown hbel;go_wp2_with fail;go_ret;exact⟨_,rfl,HOWN.out,HBEL.out⟩
theorem Zyd {T ST:TypeId} {z:Value} {b:Nat} (E:Zsk T ST z b) (ty:TypeId) (wr:World) (base:Nat) (v:Value) (xs:List Value) (y:Value) (hy:y.oneCell'=true) (hown:OwnC T wr base v xs) (hlen:xs.length<1099511627776) (hbase:base<=wr.heap.size) :
 ∃ v' w',(Builtin.append_ #[ST,ST] ty #[v,.slice (some ⟨wr.heap.size,0,none⟩) 1 1]).run Tryz.prog (wr.alloc (.cells #[y] T))=.ok v' w' /\
  OwnC T w' base v' (xs++[y])/\w'.os=wr.os/\w'.tape=wr.tape/\w'.output=wr.output/\wr.heap.size<=w'.heap.size/\Zci v v' wr w':=by
 obtain⟨i,hi,hz,hsz,hby⟩:=info_parts E.info;have hsm:=E.small;obtain⟨v',w',hr,h1,h2,_,hloc⟩:=run_append_own_at (P:=Tryz.prog) (wr.alloc (.cells #[y] T)) base ST ty T i z 1 b E.under hi hz hsz hby (by rw[E.one];rfl) (by decide)
  v xs.length xs (hown.alloc _) ⟨wr.heap.size,0,none⟩ 1 1 [y] rfl (cell_one_new _ _ _) (by intro u hu;simp at hu;subst hu;exact hy) (by unfold maxLen;omega) (by
   have h1:(xs.length+1)*b<=1099511627776*100:=Nat.mul_le_mul (by omega) hsm;omega) (by simp;omega)
 refine⟨v',w',hr,?_,h2.os,h2.tape,h2.output,?_,⟨Zcp h2,hloc.imp id fun e=>⟨_,e,by simp⟩⟩⟩
 ·
  unfold OwnC;rw[List.length_append];exact h1
 ·
  have:=h2.size;simp at this;omega
theorem OwnC.lower {T:TypeId} {w:World} {base b:Nat} {v:Value} {xs:List Value} (h:OwnC T w base v xs) (hb:b<=base):OwnC T w b v xs:=by
 refine⟨h.1,?_⟩;rcases h.2 with hn|⟨g,cap,cur,rfl,hb',rest⟩
 ·
  exact .inl hn
 ·
  exact .inr ⟨g,cap,cur,rfl,by omega,rest⟩
theorem Zl2 (e:ExT) (x:Value) (n:Nat) (hn:n<=12) (w:World) (hs:e.size<=4096) (hok:okT e 1) (h:Zbb w e x) :
 Calls Tryz.prog 58 #[x,.int .i64 n] w fun y w'=>∃ v,y=.returned v/\OwnB w' w.heap.size v (tabB n (fnT e))/\Below w.heap.size w w':=by
 have HCH:Hid (∀ W,Below w.heap.size w W->∀ u,u=x->Calls Tryz.prog 56 #[u] W fun y w'=>y=.returned (.int .i64 0)/\Below W.heap.size W w'):=Hd fun W hb u hu=>by
  subst hu
  exact(Zhr e _ W hs (h.below hb)).mono (by
   rintro y w' ⟨err,rfl,h1,h2⟩;rw[h1.2 hok];exact⟨rfl,h2⟩)
 have HVAL:Hid (∀ W,Below w.heap.size w W->∀ u,u=x->∀ (ls:List Bool) al cl,Zbt W al ls->Calls Tryz.prog 128 #[u,.slice al ls.length cl] W fun y w'=>y=.returned (.bool (fnT e (Zb1 ls)))/\Below W.heap.size W w'):=Hd fun W hb u hu ls al cl hl=>by
  subst hu;exact Zln ls al cl e _ W hok.valid (h.below hb) hl
 have HLIST:Hid (∀ j,j<=1048576->∀ W,Calls Tryz.prog 129 #[.int .i64 (j:Nat),.int .i64 n] W fun x w'=>∃ v,x=.returned v/\OwnB w' W.heap.size v (Zce j n)/\Below W.heap.size W w'):=Hd fun j hj W=>Zs6 j n hj (by omega) W
 have HS:Hid (∀ k,k<=n->2^k<=4096):=Hd fun k hk=>Nat.le_trans (Nat.pow_le_pow_right (by omega) (show k<=12 by omega)) (by decide)
 obtain⟨x0,x1,x2,hx,o0,o1,o2⟩:=h.agg;subst hx;obtain⟨w1,hw1⟩:∃ w1,w1=w.alloc (.cells #[x0,x1,x2] 86):=⟨_,rfl⟩;have HW1:Hid (_=w1):=Hd hw1.symm;have HB1:Hid (Below w.heap.size w w1):=by rw[hw1];exact Hd (Zac _ _)
 have hblk:w1.heap[w.heap.size]?=some (.cells #[x0,x1,x2] 86 (0,0)):=by rw[hw1];exact heap_alloc_new _ _
 have hs1:w1.heap.size=w.heap.size+1:=by rw[hw1];simp
 have d0:w1.cell? ⟨w.heap.size,0,none⟩=some x0:=by rw[cell_of_row _ _ 0 _ _ _ hblk];rfl
 have d1:w1.cell? ⟨w.heap.size,1,none⟩=some x1:=by rw[cell_of_row _ _ 1 _ _ _ hblk];rfl
 have d2:w1.cell? ⟨w.heap.size,2,none⟩=some x2:=by rw[cell_of_row _ _ 2 _ _ _ hblk];rfl
 obtain⟨L,hL⟩:∃ L,L=2^n:=⟨_,rfl⟩;have HLL:=Hd hL;obtain⟨G,hG⟩:∃ G:Nat->Bool,G=fun i=>fnT e (Zb1 (Zce i n)):=⟨_,rfl⟩
 have HG:Hid (∀ i,fnT e (Zb1 (Zce i n))=G i):=Hd fun i=>by rw[hG]
 have HT:Hid (tabB n (fnT e)=(List.range L).map G):=Hd (by rw[hL,hG];rfl);have hL4:L<=4096:=by rw[hL];exact HS.out n (Nat.le_refl _)
 rw[HT.out];clear h hw1 hblk hG hL
 go_enter Tryz.func58,Tryz.ntmps58
 go_upto_region 1 with fail;rw[HW1.out];have hn0:¬ (n:Int)<0:=by omega
 have hn12:¬ (n:Int)>12:=by omega
 go_wp2_with fail;refine(HCH.out _ HB1.out _ rfl).mono ?_;rintro y w2 ⟨rfl,hb2⟩;have HB2:=Hd hb2;clear hb2 HCH;go_wp2_with fail
 go_loopw [5,6] (fun s5 s6 wr=>∃ k p:Nat,k<=n/\s5=.int .i64 p/\s6=.int .i64 k/\Hid (wr=w2)/\Hid (2^k=p)) (fun _ s6 _=>n-(intOf s6).toNat)
 case atStart=>exact⟨0,1,Nat.zero_le _,rfl,rfl,Hd rfl,Hd rfl⟩
 case round =>
  obtain⟨k,p,hk,rfl,rfl,HWR,HP⟩:=hrel;have hpb:p<=4096:=by rw[<- HP.out];exact HS.out k hk
  by_cases hlt:k<n
  ·
   go_wp2_with fail;go_roundw
   case rel=>exact⟨k+1,2*p,by omega,by go_num,by go_num,HWR,Hd (by rw[Nat.pow_succ,HP.out];omega)⟩
   case measure=>simp[intOf];omega
  ·
   obtain rfl:k=n:=by omega
   obtain rfl:p=L:=by rw[<- HP.out,HLL.out]
   have hw2:=HWR.out;subst hw2;obtain⟨w3,hw3⟩:∃ w3,w3=wr.alloc (.cells #[] 4):=⟨_,rfl⟩;have HW3:Hid (_=w3):=Hd hw3.symm;have hb3:Below w1.heap.size w1 w3:=by rw[hw3];exact HB2.out.trans ((Zac _ _).mono HB2.out.size)
   have HOWN:Hid (OwnB w3 w1.heap.size (.slice (some ⟨wr.heap.size,0,none⟩) 0 0) []):=by rw[hw3];exact Hd (Zf4 _ _ _ HB2.out.size)
   have HB3:=Hd hb3;have hs3:w1.heap.size<=w3.heap.size:=hb3.size;clear hw3 hb3 hlt;go_upto_region 9 with fail;rw[HW3.out];go_wp2_with fail
   go_loopw [7,8] (fun s7 s8 wr=>∃ j:Nat,j<=p/\s8=.int .i64 j/\Hid (OwnB wr w1.heap.size s7 ((List.range j).map G))/\Hid (Below w1.heap.size w1 wr)/\w1.heap.size<=wr.heap.size) (fun _ s8 _=>p-(intOf s8).toNat)
   case atStart=>exact⟨0,Nat.zero_le _,rfl,HOWN,HB3,hs3⟩
   case round =>
    clear HOWN HB3 hs3 HW3 HWR HB2
    rename World=>wq
    obtain⟨j,hj,rfl,HOW,HBEL,hsz⟩:=hrel
    by_cases hlt:j<p
    ·
     have e0:=(HBEL.out.cell (p:=⟨w.heap.size,0,none⟩) (Zaa d0)).trans d0;have e1:=(HBEL.out.cell (p:=⟨w.heap.size,1,none⟩) (Zaa d1)).trans d1;have e2:=(HBEL.out.cell (p:=⟨w.heap.size,2,none⟩) (Zaa d2)).trans d2;have HL:=Hd (HLIST.out j (by omega) wq.drew);go_upto_region 12 with fail;refine Zap (fun W:World=>W.cell? ⟨w.heap.size,0,none⟩=some x0/\W.cell? ⟨w.heap.size,1,none⟩=some x1/\W.cell? ⟨w.heap.size,2,none⟩=some x2) false 9
      [(0,false),(1,false),(2,false),(3,false),(4,true),(5,true),(6,true),(7,true),(8,false)] (by kernel_rfl) (by kernel_rfl) ⟨e0,e1,e2⟩ ?_
     simp only[planned,Zde]
     iterate 4
      refine Zaq rfl ?_;apply Exists.intro;refine⟨fun w' hw=>?_,?_⟩
      ·
       obtain⟨h1,h2,h3⟩:=hw;go_simp;rfl
      simp only[Zag]
     refine Zb7 (R:=fun v w'=>Zbm w' v (Zce j k)/\Below wq.heap.size wq w') rfl (by go_simp) (HL.out.mono (fun e w' he=>?_)) ?_
     ·
      obtain⟨v,rfl,q1,q2⟩:=he;have q3:Below wq.heap.size wq w':=(Zaf wq 1).trans (q2.mono (Zaf wq 1).size);exact⟨v,rfl,⟨(q3.cell (p:=⟨w.heap.size,0,none⟩) (Zaa e0)).trans e0,(q3.cell (p:=⟨w.heap.size,1,none⟩) (Zaa e1)).trans e1,(q3.cell (p:=⟨w.heap.size,2,none⟩) (Zaa e2)).trans e2⟩,q1.boolsIs (by rw[Ze7];omega),q3⟩
     rintro v w4 ⟨f0,f1,f2⟩ ⟨⟨av,cv,rfl,hbs,-⟩,hb4⟩;have HBS:=Hd hbs;have HB4:=Hd hb4;clear hbs hb4 e0 e1 e2 HL;simp only[Zag];refine Zb7 (R:=fun v w'=>v=.bool (G j)/\Below w4.heap.size w4 w') rfl (by go_simp) ((HVAL.out w4 (HB1.out.trans ((HBEL.out.trans (HB4.out.mono HBEL.out.size)).mono HB1.out.size)) _ rfl (Zce j k) av cv HBS.out).mono (fun e w' he=>?_)) ?_
     ·
      obtain⟨rfl,q3⟩:=he;exact⟨_,rfl,⟨(q3.cell (p:=⟨w.heap.size,0,none⟩) (Zaa f0)).trans f0,(q3.cell (p:=⟨w.heap.size,1,none⟩) (Zaa f1)).trans f1,(q3.cell (p:=⟨w.heap.size,2,none⟩) (Zaa f2)).trans f2⟩,by rw[HG.out],q3⟩
     rintro v w5 ⟨g0,g1,g2⟩ ⟨rfl,hb5⟩;obtain⟨y,hy⟩:∃ y,y=G j:=⟨_,rfl⟩;rw[<- hy];have HYY:Hid (Zbx ((List.range (j+1)).map G)=Zbx ((List.range j).map G)++[.bool y]):=Hd (by rw[Zmw,Zhq,hy]);have hbq:=HB4.out.trans (hb5.mono HB4.out.size);have HB5:=Hd (HBEL.out.trans (hbq.mono HBEL.out.size));have HOW5:=Hd (HOW.out.below hbq);have hsz5:w1.heap.size<=w5.heap.size:=Nat.le_trans hsz hbq.size;clear hb5 hbq f0 f1 f2 hy HBS HB4;simp only[Zag];have hbn:=Zac w5 (.cells #[.bool y] 4);refine Zij (v:=.slice (some ⟨w5.heap.size,0,none⟩) 1 1) (w':=w5.alloc (.cells #[.bool y] 4)) rfl (by go_simp) ⟨(hbn.cell (p:=⟨w.heap.size,0,none⟩) (Zaa g0)).trans g0,(hbn.cell (p:=⟨w.heap.size,1,none⟩) (Zaa g1)).trans g1,(hbn.cell (p:=⟨w.heap.size,2,none⟩) (Zaa g2)).trans g2⟩ ?_;simp only[Zag];obtain⟨v6,w6,hr6,hown6,q1,q2,q3,q4,hk6⟩:=Zyd Ze8 34 w5 w1.heap.size _ (Zbx ((List.range j).map G)) (.bool y) rfl HOW5.out (by simp[Zbx];omega) hsz5;have hb6:=Zh7 HB5.out HOW5.out q1 q2 q3 q4 hk6 hsz5;refine Zij (v:=v6) (w':=w6) rfl (Zhx rfl rfl rfl hr6) ⟨(hb6.cell (p:=⟨w.heap.size,0,none⟩) (Zaa d0)).trans d0,(hb6.cell (p:=⟨w.heap.size,1,none⟩) (Zaa d1)).trans d1,(hb6.cell (p:=⟨w.heap.size,2,none⟩) (Zaa d2)).trans d2⟩ ?_;simp only[Zag]
     iterate 1
      refine Zaq rfl ?_;apply Exists.intro;refine⟨fun w' hw=>?_,?_⟩
      ·
       obtain⟨h1,h2,h3⟩:=hw;go_simp;rfl
      simp only[Zag]
     refine Zei ?_;have HB6:=Hd hb6;have HOW6:=Hd hown6;have hsz6:w1.heap.size<=w6.heap.size:=by omega
     clear hb6 hown6 q1 q2 q3 q4 hk6 hr6 g0 g1 g2 hbn;go_wp2_with fail;go_roundw
     case rel=>exact⟨j+1,by omega,by go_num,Hd (by unfold OwnB;rw[HYY.out];exact HOW6.out),HB6,hsz6⟩
     case measure=>simp[intOf];omega
    ·
     obtain rfl:j=p:=by omega
     have HF:Hid (∃ v,Ending.returned u7=.returned v/\OwnB wq w.heap.size v ((List.range j).map G)/\Below w.heap.size w wq):=Hd ⟨u7,rfl,HOW.out.lower (by omega),HB1.out.trans (HBEL.out.mono HB1.out.size)⟩;go_wp2_with fail;go_ret;exact HF.out
open Go.RowKit
section
variable {P:Program} (w:World)
theorem Zj1 (t ty e:TypeId) (i:TypeInfo) (ht:P.underlying t=some (.slice e)) (hi:P.info? e=some i)
 (g off sLen sCap:Nat) (cur:Array Value) (hg:w.heap[g]?=some (.cells cur e (0,0)))
 (a:Addr) (m c:Nat) (news:List Value) (hl:news.length=m*i.size) (hnews:∀ j u,news[j]?=some u->w.cell? (a.add j)=some u) (h1:∀ u∈news,u.oneCell'=true)
 (hroom:sLen+m<=sCap) (hfit:off+sLen*i.size+news.length<=cur.size) :
 (Builtin.append_ #[t,t] ty #[.slice (some ⟨g,off,none⟩) sLen sCap,.slice (some a) m c]).run P w =
  .ok (.slice (some ⟨g,off,none⟩) (sLen+m) sCap) (w.setRow g (cur.toList.take (off+sLen*i.size)++news++cur.toList.drop (off+sLen*i.size+news.length)).toArray):=by
 have hf:=run_firstCells_some (P:=P) w i.size m a m c news hl hnews;have hst:=run_storeCells_at P g (off+sLen*i.size) e news 0 cur w hg (by simpa using hfit) h1;simp only[Nat.add_zero] at hst;have hadd:(⟨g,off,none⟩:Addr).add (sLen*i.size)=⟨g,off+sLen*i.size,none⟩:=by unfold Addr.add;split<;>simp_all
 simp[Builtin.append_,run_underlying ht,sizeOf,typeInfo,hi,Builtin.lenOf,hroom,hf,hadd,hst]
end
theorem Ybk:(Tryz.prog.info? 103).map (fun i=>(i.zero,i.size,i.bytes))=some (some (.agg #[.int .i64 0,.int .i64 0,.int .i64 0]),3,24):=by kernel_rfl
theorem Zz6 (l:List Ev):∀ (j:Nat) (u:Value),(l.flatMap evL)[j]?=some u->∃ hk:j/3<l.length,(evL (l[j/3]))[j%3]?=some u:=by
 induction l with
 | nil=>intro j u h;simp at h
 | cons e l ih =>
   intro j u h;rw[List.flatMap_cons] at h
   by_cases hj:j<3
   ·
    rw[List.getElem?_append_left (by show j<3;exact hj)] at h;have e0:j/3=0:=by omega
    refine⟨by rw[e0];simp,?_⟩;have e1:j%3=j:=by omega
    simp only[e0,e1,List.getElem_cons_zero];exact h
   ·
    rw[List.getElem?_append_right (by show 3<=j;omega)] at h;obtain⟨hk,h2⟩:=ih (j-3) u h;have e0:j/3=(j-3)/3+1:=by omega
    have e1:j%3=(j-3)%3:=by omega
    refine⟨by rw[e0,List.length_cons];omega,?_⟩;simp only[e0,e1,List.getElem_cons_succ];exact h2
theorem EvsAt.news {w:World} {b off:Nat} {l:List Ev} (h:EvsAt w (some ⟨b,off,none⟩) l):∀ j u,(l.flatMap evL)[j]?=some u->w.cell? ((⟨b,off,none⟩:Addr).add j)=some u:=by
 intro j u hu;have hadd:(⟨b,off,none⟩:Addr).add j=⟨b,off+j,none⟩:=by unfold Addr.add;split<;>simp_all
 obtain⟨hk,h2⟩:=Zz6 l j u hu;obtain⟨b',off',e,c0,c1,c2⟩:=h.cells (j/3) hk;cases e;rw[hadd];have hm:j%3<3:=Nat.mod_lt _ (by decide);rcases(by omega:j%3=0\/j%3=1\/j%3=2) with e|e|e<;>rw[e] at h2
 ·
  have e2:j=j/3*3:=by omega
  rw[e2,c0];exact h2
 ·
  have e2:j=j/3*3+1:=by omega
  rw[e2,<- Nat.add_assoc,c1];exact h2
 ·
  have e2:j=j/3*3+2:=by omega
  rw[e2,<- Nat.add_assoc,c2];exact h2
theorem Zz7 (l:List Ev):∀ u∈l.flatMap evL,u.oneCell'=true:=by
 intro u hu;obtain⟨e,_,h⟩:=List.mem_flatMap.1 hu;simp only[evL,List.mem_cons,List.not_mem_nil,or_false] at h;rcases h with rfl|rfl|rfl<;>rfl
theorem Zjw {o:Own} {w:World} {v:Value} {ws l:List Ev} {a:Option Addr} {c:Nat} (h:Zb4 o w v ws) (hlt:Zaj o w) (hev:EvsAt w a l) (hsm:ws.length+l.length<=1000) (ty:TypeId) :
 ∃ v' w' o',(Builtin.append_ #[24,24] ty #[v,.slice a l.length c]).run Tryz.prog w=.ok v' w'/\Zb4 o' w' v' (ws++l)/\Chg (· = .waits) o o' w w'/\Zaj o' w':=by
 obtain⟨i,hi,hz,hsz,hby⟩:=info_parts Ybk;have ht:=Tryz.underlying24
 by_cases h0:l=[]
 ·
  subst h0;refine⟨v,w,o,?_,by rw[List.append_nil];exact h,Chg.refl _ _ _,hlt⟩;rcases h.ex with ⟨rfl,rfl⟩|⟨g,off,cap,cur,rfl,_,_,hn,_⟩
  ·
   cases a<;>simp[Builtin.append_,run_underlying ht,sizeOf,typeInfo,hi,Builtin.lenOf,Builtin.firstCells,loadCells,loadCellsFrom]
  ·
   cases a<;>simp[Builtin.append_,run_underlying ht,sizeOf,typeInfo,hi,Builtin.lenOf,hn,Builtin.firstCells,storeCells,loadCells,loadCellsFrom]
 ·
  have hl0:0<l.length:=List.length_pos_iff.2 h0;obtain⟨b,off,rfl,_⟩:=hev.cells 0 hl0;have hnews:=hev.news;have hone:=Zz7 l;have hln:(l.flatMap evL).length=l.length*i.size:=by rw[hsz];exact Zc7 l
  have hlf:(ws.flatMap evL++l.flatMap evL).length=(ws++l).length*3:=by rw[List.length_append,Zc7,Zc7,List.length_append];omega
  have mk:∀ (old:Nat),Zb4 (Zcy o w.heap.size .waits) (w.drew.alloc (.cells ((ws.flatMap evL).toArray++(l.flatMap evL).toArray++Builtin.zeroCells (Value.agg #[.int .i64 0,.int .i64 0,.int .i64 0]).cells (grownCap w (ws.length+l.length) old 103-(ws.length+l.length))) 103)) (.slice (some ⟨w.heap.size,0,none⟩) (ws.length+l.length) (grownCap w (ws.length+l.length) old 103)) (ws++l) /\
   Chg (· = .waits) o (Zcy o w.heap.size .waits) w (w.drew.alloc (.cells ((ws.flatMap evL).toArray++(l.flatMap evL).toArray++Builtin.zeroCells (Value.agg #[.int .i64 0,.int .i64 0,.int .i64 0]).cells (grownCap w (ws.length+l.length) old 103-(ws.length+l.length))) 103)) /\
   Zaj (Zcy o w.heap.size .waits) (w.drew.alloc (.cells ((ws.flatMap evL).toArray++(l.flatMap evL).toArray++Builtin.zeroCells (Value.agg #[.int .i64 0,.int .i64 0,.int .i64 0]).cells (grownCap w (ws.length+l.length) old 103-(ws.length+l.length))) 103)):=by
   intro old;have hge:=grownCap_ge w (ws.length+l.length) old 103;have hcm:grownCap w (ws.length+l.length) old 103<=maxLen:=grownCap_le_maxLen w _ old _ (by unfold maxLen;omega);refine⟨⟨.inr ⟨w.heap.size,0,_,_,by rw[List.length_append],Zbe _ _ _,heap_alloc_new w.drew _,by rw[List.length_append];exact hge,hcm,?_,?_⟩⟩,((Chg.refl (· = .waits) o w).drewN 1).allocR (w':=w.drewN 1) hlt _ rfl,Zaj.allocR (w:=w.drewN 1) hlt _ .waits⟩
   ·
    have e3:(Value.agg #[.int .i64 0,.int .i64 0,.int .i64 0]).cells.size=3:=rfl;simp only[Array.size_append,List.size_toArray,size_zeroCells,e3,Zc7,Nat.zero_add];omega
   ·
    simp only[Array.toList_append,List.drop_zero,List.flatMap_append];rw[List.take_left' hlf]
  rcases h.ex with ⟨rfl,rfl⟩|⟨g,off2,cap,cur,rfl,hog,hg,hnc,hcm,hcs,htake⟩
  ·
   have hr:=run_append_nil (P:=Tryz.prog) w 24 ty 103 i _ ht hi hz ⟨b,off,none⟩ l.length c (l.flatMap evL) hln hnews hl0 (by simp at hsm;omega) (by rw[hby];simp at hsm;omega);have hm:=mk 0;simp only[List.length_nil,Nat.zero_add,List.flatMap_nil,List.nil_append,Array.empty_append] at hm ⊢;exact⟨_,_,_,hr,hm⟩
  ·
   by_cases hroom:ws.length+l.length<=cap
   ·
    have hfit:off2+ws.length*i.size+(l.flatMap evL).length<=cur.size:=by rw[hln,hsz];omega
    have hr:=Zj1 (P:=Tryz.prog) w 24 ty 103 i ht hi g off2 ws.length cap cur hg ⟨b,off,none⟩ l.length c (l.flatMap evL) hln hnews hone hroom hfit;refine⟨_,_,o,hr,⟨.inr ⟨g,off2,cap,_,by rw[List.length_append],hog,setRow_heap w g cur _ _ _ hg,by rw[List.length_append];exact hroom,hcm,?_,?_⟩⟩,⟨rfl,rfl,rfl,by simp,fun k _ hk=>setRow_other w g k _ (by rintro rfl;exact hk _ hog rfl),fun _ _ h=>h,fun _ h=>(h rfl).elim⟩,fun k q hq=>by have:=hlt k q hq;simpa using this⟩
    ·
     simp only[List.size_toArray,List.length_append,List.length_take,List.length_drop,Array.length_toList];omega
    ·
     rw[hsz] at hfit ⊢;have e1:(cur.toList.take (off2+ws.length*3)).drop off2=ws.flatMap evL:=by
      rw[<- htake,List.drop_take,Nat.add_sub_cancel_left]
     have e2:off2<=(cur.toList.take (off2+ws.length*3)).length:=by
      have hq:ws.length*3<=cap*3:=Nat.mul_le_mul_right _ hnc;have hq2:off2+ws.length*3<=cur.size:=by clear hfit;omega
      have hq3:cur.toList.length=cur.size:=Array.length_toList;rw[List.length_take,hq3,Nat.min_eq_left hq2];exact Nat.le_add_right _ _
     simp only[List.append_assoc];rw[List.drop_append_of_le_length e2,e1,<- List.append_assoc,List.flatMap_append,List.take_left' hlf]
   ·
    have holds:∀ j u,(ws.flatMap evL)[j]?=some u->w.cell? ((⟨g,off2,none⟩:Addr).add j)=some u:=by
     intro j u hu;have hadd:(⟨g,off2,none⟩:Addr).add j=⟨g,off2+j,none⟩:=by unfold Addr.add;split<;>simp_all
     rw[hadd,cell_of_row w g (off2+j) cur _ _ hg];rw[<- htake,List.getElem?_take] at hu;split at hu
     ·
      rw[List.getElem?_drop] at hu;simpa using hu
     ·
      cases hu
    have hr:=run_append_grow (P:=Tryz.prog) w 24 ty 103 i _ ht hi hz ⟨g,off2,none⟩ ws.length cap (ws.flatMap evL) (by rw[hsz];exact Zc7 ws) holds ⟨b,off,none⟩ l.length c (l.flatMap evL) hln hnews (by omega) (by omega) (growslice_fits (by omega) (by rw[hby];omega));exact⟨_,_,_,hr,mk cap⟩
open Go.RowKit
theorem Zb4.form {o:Own} {w:World} {v:Value} {ws:List Ev} (h:Zb4 o w v ws):∃ a c,v=.slice a ws.length c:=by
 rcases h.ex with ⟨rfl,rfl⟩|⟨g,off,cap,cur,rfl,_⟩
 ·
  exact⟨_,_,rfl⟩
 ·
  exact⟨_,_,rfl⟩
theorem Zlp {P:Program} {ops:Array Oper} {rest:List Oper} {op:Oper} {a:Act} {Q:Exit->Act->World->Prop} {w w':World} {vs vx v':Value} (hgd:op.guard=none) (s x:Operand) (t:TypeId)
 (hop:op.op=.call { callee:=.builtin .append,args:=#[s,x],argTypes:=#[t,t] }) (hs:a.eval s=vs) (hx:a.eval x=vx) (hr:(Builtin.append_ #[t,t] op.type #[vs,vx]).run P w=.ok v' w')
 (hK:wpList P ops Q rest (a.put op.dst v') w'):wpList P ops Q (op::rest) a w:=by
 refine wpList_plain hgd fun K hKK=>?_
 unfold Oper.wp execOp;simp only[hop,resolve,invoke,builtin,Sem.run_bind,Sem.run_pure,Result.andThen_ok,List.map_toArray,List.map_cons,List.map_nil,hs,hx,hr];exact hKK _ _ hK
theorem Zb8.setWaits {F:Phi} {o o':Own} {w w':World} {mb:Nat} {m:ManD} {s:ManW} (h:Zb8 F o w mb m s) (hlt:Zaj o w) {v':Value} {l':List Ev} (hw:Zb4 o' w' v' l') (hc:Chg (· = .waits) o o' w w'):Zb8 F o' (w'.setCell ⟨mb,4,none⟩ v') mb { m with waits:=l' } { s with vw:=v' }:=by
 have key:∀ {g r},o g=some r->r ≠ .man->r ≠ .waits->(w'.setCell ⟨mb,4,none⟩ v').heap[g]?=w.heap[g]?:=by
  intro g r hg h1 h2;refine(Zah (p:=⟨mb,4,none⟩) (fun e=>?_) _).trans (hc.same hlt hg h2);have e':g=mb:=e;subst e';have:=h.own;rw[hg] at this;cases this;exact h1 rfl
 refine⟨hc.ext _ _ h.own,?_,h.store.keepR (fun g r hg hr=>key hg (by rintro rfl;simp[Zar,Zfi] at hr) (by rintro rfl;simp[Zar,Zfi] at hr)) hc.ext,h.memo.keep (fun g r hg hr=>key hg (by rintro rfl;rcases hr with e|e<;>cases e) (by rintro rfl;rcases hr with e|e<;>cases e)) hc.ext,hc.ext _ _ h.ownh,h.map.keepB (key h.ownh (by simp) (by simp)),hw.keep (fun g hg=>Zah (p:=⟨mb,4,none⟩) (fun e=>?_) _) (fun _ h=>h)⟩
 ·
  exact Zai ((hc.same hlt h.own (by simp)).trans h.blk) _
 ·
  have e':g=mb:=e;subst e';have:=hc.ext _ _ h.own;rw[hg] at this;cases this
section
variable {K:Law} {n:Nat} {Od:List Nat->Prop} {room:Nat} {w0 w w':World} {mb:Nat} {fs:List (Int×BF)} {nx:Int} {o o':Own} {m m':ManD} {V V':Nat->BF}
structure Planned (K:Law) (n:Nat) (Od:List Nat->Prop) (room:Nat) (w0:World) (mb:Nat) (fs:List (Int×BF)) (nx:Int) (o:Own) (w:World) (m:ManD) (V:Nat->BF) (l:List Ev) (z:Int) (o':Own) (w':World) (m':ManD):Prop where
 sat:SatE K n Od room w0 mb fs nx w' o' m' V
 d:m'.d=m.d
 chg:Chg (fun _=>True) o o' w w'
 no:z≠0->m'.waits=m.waits/\m'.calls=m.calls
 yes:z=0->m'.waits=m.waits++l/\m'.calls=if m.waits=[] then 0 else m.calls
theorem Zq3 (h:SatE K n Od room w0 mb fs nx w o m V) {a:Option Addr} {c:Nat} {l:List Ev} (hev:EvsAt w a l) (hno:0<l.length->∀ x,a=some x->o x.block=none) (hwl:m.waits.length<=256) :
 Calls Tryz.prog 71 #[.pointer (some ⟨mb,0,none⟩),.slice a l.length c] w fun e w'=>e=.returned (.int .i64 (Ze5 n m.waits.length l))/\∃ o' m',Planned K n Od room w0 mb fs nx o w m V l (Ze5 n m.waits.length l) o' w' m':=by
 obtain⟨Q,hQ⟩:∃ Q:Ending->World->Prop,Q=fun e w'=>e=.returned (.int .i64 (Ze5 n m.waits.length l))/\∃ o' m',Planned K n Od room w0 mb fs nx o w m V l (Ze5 n m.waits.length l) o' w' m':=⟨_,rfl⟩
 rw[<- hQ];have HQ:=Hd hQ;clear hQ;have hll:=hev.len;have hn64:n<=64:=by rw[<- h.vars];exact h.ok.store.small
 obtain⟨s,hs⟩:=h.is;obtain⟨c0,c1,c2,c3,c4,c5,f0⟩:=cells6 hs.blk;obtain⟨av,cv,hvw⟩:=hs.waits.form
 have HBAD:Hid (∀ (z:Int) W,Below w.heap.size w W->Ze5 n m.waits.length l=z->z≠0->Q (.returned (.int .i64 z)) W):=Hd (by
  intro z W hb hz h0;rw[HQ.out,hz];exact⟨rfl,o,m,h.below hb,rfl,Chg.of_below hb _ _,fun _=>⟨rfl,rfl⟩,fun e=>(h0 e).elim⟩)
 have HV:Hid (∀ W,Below w.heap.size w W->Calls Tryz.prog 74 #[.pointer (some ⟨mb,0,none⟩)] W fun e w'=>e=.returned (.int .i64 n)/\w'=W):=Hd (fun W hb=>(Zk3 (h.below hb).is).mono fun e w' q=>⟨by rw[q.1,h.vars],q.2.symm⟩);have HI:=Hd hev;have HS:=Hd hs;have HH:=Hd h;have HNO:=Hd hno;rw[hvw] at c4;have HVW:=Hd hvw;have HWL:=Hd hwl;clear h hs hev hno hvw
 by_cases hmany:(l.length:Int)>256-m.waits.length
 ·
  have HF:=Hd (HBAD.out 18 w (Below.refl _ _) (by unfold Ze5;rw[if_pos hmany]) (by decide))
  go_enter Tryz.func71,Tryz.ntmps71
  go_wp2_with fail;exact HF.out
 have HR:Hid (Ze5 n m.waits.length l=Zlz n (l.drop 0)):=Hd (by unfold Ze5;rw[if_neg hmany];rfl);obtain⟨P,hP⟩:∃ P,P=Ze5 n m.waits.length l:=⟨_,rfl⟩;rw[<- hP] at HR HBAD;have HPE:=Hd hP;clear hP;have HM:=Hd hmany
 go_enter Tryz.func71,Tryz.ntmps71
 go_wp2_with fail
 go_loopw [20] (fun s20 wr=>∃ i:Nat,i<=l.length/\s20=.int .i64 i/\Hid (Below w.heap.size w wr)/\Hid (P=Zlz n (l.drop i))) (fun s20 _=>l.length-(intOf s20).toNat)
 case atStart=>exact⟨0,Nat.zero_le _,rfl,Hd (Below.refl _ _),HR⟩
 case round =>
  clear HR;obtain⟨i,hi,rfl,HB,HP⟩:=hrel
  by_cases hlt:i<l.length
  ·
   obtain⟨b,off,rfl,e0,e1,e2⟩:=(HI.out.below HB.out).cells i hlt;have hiz:(i:Int)<l.length:=by omega
   have HC:Hid (∀ z:Int,Zhh n l[i]=z->z≠0->P=z):=Hd fun z hz h0=>by rw[HP.out,Zg6 hlt,hz,if_neg h0]
   have HN:Hid (Zhh n l[i]=0->P=Zlz n (l.drop (i+1))):=Hd fun hz=>by rw[HP.out,Zg6 hlt,hz,if_pos rfl]
   have HE:Hid (Zhh n l[i]=if l[i].kind<1\/l[i].kind>3 then 11 else if l[i].after<1\/(l[i].kind=2/\(l[i].level<0\/l[i].level>(n:Int)-2)) then 2 else 0):=Hd rfl;obtain⟨ev,hev⟩:∃ ev,ev=l[i]:=⟨_,rfl⟩;rw[<- hev] at e0 e1 e2 HC HN HE;obtain⟨af,ki,le⟩:=ev;dsimp only at e0 e1 e2 HE;clear hev HP c0 c1 c2 c3 c4 c5 f0;obtain⟨W,hW⟩:∃ W,W=wr.alloc (.cells #[.int .i64 af,.int .i64 ki,.int .i64 le] 103):=⟨_,rfl⟩;have hbW:Below w.heap.size w W:=HB.out.trans ((show Below wr.heap.size wr W by rw[hW];exact Zac wr _).mono HB.out.size);obtain⟨bx,hbx⟩:∃ q,q=wr.heap.size:=⟨_,rfl⟩;have hx:W.heap[bx]?=some (.cells #[.int .i64 af,.int .i64 ki,.int .i64 le] 103 (0,0)):=by rw[hW,hbx];exact heap_alloc_new wr _
   have b0:W.cell? ⟨bx,0,none⟩=some (.int .i64 af):=by rw[cell_of_row W _ 0 _ _ _ hx];rfl
   have b1:W.cell? ⟨bx,1,none⟩=some (.int .i64 ki):=by rw[cell_of_row W _ 1 _ _ _ hx];rfl
   have b2:W.cell? ⟨bx,2,none⟩=some (.int .i64 le):=by rw[cell_of_row W _ 2 _ _ _ hx];rfl
   have HW:=Hd hW;have HBX:=Hd hbx;have HBW:=Hd hbW;have HVV:Hid (∀ q,Calls Tryz.prog 74 #[.pointer (some ⟨mb,0,none⟩)] (W.drewN q) fun e w'=>e=.returned (.int .i64 n)/\w'=W.drewN q):=Hd (fun q=>HV.out _ (hbW.trans ((Zaf W q).mono hbW.size)));have HJL:=Hd hlt;clear hW hbx hbW hx;go_upto_region 8 with fail;rw[<- HW.out,<- HBX.out];have hki:ki<1\/ki>3\/(ki=2)\/(ki=1\/ki=3):=by omega
   rcases hki with hk|hk|hk|hk
   ·
    have HF:=Hd (HBAD.out 11 W HBW.out (HC.out 11 (by rw[HE.out,if_pos (.inl hk)]) (by decide)) (by decide));go_wp2_with fail;exact HF.out
   ·
    have HF:=Hd (HBAD.out 11 W HBW.out (HC.out 11 (by rw[HE.out,if_pos (.inr hk)]) (by decide)) (by decide));have hk1:¬ ki<1:=by omega
    go_wp2_with fail;exact HF.out
   ·
    by_cases ha:af<1
    ·
     have HF:Hid (∀ q,Q (.returned (.int .i64 2)) (W.drewN q)):=Hd (fun q=>HBAD.out 2 _ (HBW.out.trans ((Zaf W q).mono HBW.out.size)) (HC.out 2 (by rw[HE.out,if_neg (by omega),if_pos (.inl ha)]) (by decide)) (by decide));subst hk;go_upto_region 10 with fail
     go_quiet (with_reducible exact Calls.quiet_of_same (HVV.out _))
     go_wp2_with fail;exact HF.out _
    ·
     by_cases hl0:le<0
     ·
      have HF:Hid (∀ q,Q (.returned (.int .i64 2)) (W.drewN q)):=Hd (fun q=>HBAD.out 2 _ (HBW.out.trans ((Zaf W q).mono HBW.out.size)) (HC.out 2 (by rw[HE.out,if_neg (by omega),if_pos (.inr ⟨hk,.inl hl0⟩)]) (by decide)) (by decide));subst hk;go_upto_region 10 with fail
      go_quiet (with_reducible exact Calls.quiet_of_same (HVV.out _))
      go_wp2_with fail;exact HF.out _
     ·
      by_cases hl1:le>=(n:Int)-1
      ·
       have HF:Hid (∀ q,Q (.returned (.int .i64 2)) (W.drewN q)):=Hd (fun q=>HBAD.out 2 _ (HBW.out.trans ((Zaf W q).mono HBW.out.size)) (HC.out 2 (by rw[HE.out,if_neg (by omega),if_pos (.inr ⟨hk,.inr (by omega)⟩)]) (by decide)) (by decide));subst hk;go_upto_region 10 with fail
       go_quiet (with_reducible exact Calls.quiet_of_same (HVV.out _))
       go_wp2_with fail;exact HF.out _
      ·
       have HPP:=Hd (HN.out (by rw[HE.out,if_neg (by omega),if_neg (by omega)]));subst hk;go_upto_region 10 with fail
       go_quiet (with_reducible exact Calls.quiet_of_same (HVV.out _))
       have HBQ:=Hd (HBW.out.trans ((Zaf W nq).mono HBW.out.size));go_wp2_with fail;go_roundw
       case rel=>exact⟨i+1,Nat.succ_le_of_lt HJL.out,by go_num,HBQ,HPP⟩
       case measure =>
        have:=HJL.out;simp[intOf];omega
   ·
    have hk1:¬ ki<1:=by omega
    have hk2:¬ ki>3:=by omega
    have hk3:(ki == 2)=false:=by simp;omega
    by_cases ha:af<1
    ·
     have HF:Hid (∀ q,Q (.returned (.int .i64 2)) (W.drewN q)):=Hd (fun q=>HBAD.out 2 _ (HBW.out.trans ((Zaf W q).mono HBW.out.size)) (HC.out 2 (by rw[HE.out,if_neg (by omega),if_pos (.inl ha)]) (by decide)) (by decide));clear hk;go_upto_region 10 with fail
     go_quiet (with_reducible exact Calls.quiet_of_same (HVV.out _))
     go_wp2_with fail;exact HF.out _
    ·
     have HPP:=Hd (HN.out (by rw[HE.out,if_neg (by omega),if_neg (by omega)]));clear hk;go_upto_region 10 with fail
     go_quiet (with_reducible exact Calls.quiet_of_same (HVV.out _))
     have HBQ:=Hd (HBW.out.trans ((Zaf W nq).mono HBW.out.size));go_wp2_with fail;go_roundw
     case rel=>exact⟨i+1,Nat.succ_le_of_lt HJL.out,by go_num,HBQ,HPP⟩
     case measure =>
      have:=HJL.out;simp[intOf];omega
  ·
   have he:i=l.length:=by omega
   have hiz:¬ (i:Int)<l.length:=by omega
   have HPP:Hid (P=0):=Hd (by rw[HP.out,he,List.drop_length];rfl);clear he;have hs':=HS.out.below HH.out.lt HB.out;have hlt':=HH.out.lt.mono HB.out.size;have hsm:m.waits.length+l.length<=1000:=by have:=HM.out;have:=HWL.out;omega
   have HFIN:Hid (∀ (cl:Int) (W:World) (hm:Zb8 (K m.d V) o W mb { m with calls:=cl } s) (hl:Zaj o W) (hc:Chg (fun _=>True) o o w W) (v':Value) (W':World) (o':Own),cl=(if m.waits=[] then 0 else m.calls)->Zb4 o' W' v' (m.waits++l)->Chg (· = .waits) o o' W W'->Zaj o' W'->Q (.returned (.int .i64 0)) (W'.setCell ⟨mb,4,none⟩ v')):=Hd (by
    intro cl W hm hl hc v' W' o' hcl hw hc2 hl2;rw[HQ.out,<- HPE.out,HPP.out];have hm2:=hm.setWaits hl hw hc2;have hc3:Chg (fun _=>True) o o' w (W'.setCell ⟨mb,4,none⟩ v'):=(hc.trans hc2.any).setCell (p:=⟨mb,4,none⟩) (hc2.ext _ _ hm.own) trivial _;exact⟨rfl,o',{ m with waits:=m.waits++l,calls:=cl },⟨⟨_,hm2⟩,hl2.mono (by simp[World.setCell]),⟨HH.out.ok.store,⟨HH.out.ok.handles.nodup,HH.out.ok.handles.zero,HH.out.ok.handles.one,HH.out.ok.handles.lt,HH.out.ok.handles.next,HH.out.ok.handles.ok,HH.out.ok.handles.len,HH.out.ok.handles.refs⟩⟩,HH.out.vars,HH.out.od,HH.out.room,HH.out.next,HH.out.hs,HH.out.chg.lower (ChgX.of_chg hc3 NoB) (fun _ e=>e.elim)⟩,rfl,hc3,fun e=>(e rfl).elim,fun _=>⟨rfl,hcl⟩⟩)
   have HI2:=HI.out.below HB.out;clear c0 c1 c2 c3 c4 c5 f0;obtain⟨c0,c1,c2,c3,c4,c5,f0⟩:=cells6 hs'.blk
   by_cases hw0:m.waits=[]
   ·
    have hz:m.waits.length=0:=by rw[hw0];rfl
    have HZ:=Hd hz;have hm1:Zb8 (K m.d V) o (wr.setCell ⟨mb,5,none⟩ (.int .i64 0)) mb { m with calls:=0 } s:=hs'.field rfl rfl rfl rfl rfl (hs'.waits) rfl;have hb1:Chg (fun _=>True) o o w (wr.setCell ⟨mb,5,none⟩ (.int .i64 0)):=(Chg.of_below HB.out _ _).setCell (p:=⟨mb,5,none⟩) hs'.own trivial _;have hl1:Zaj o (wr.setCell ⟨mb,5,none⟩ (.int .i64 0)):=hlt'.mono (by simp[World.setCell])
    have he1:EvsAt (wr.setCell ⟨mb,5,none⟩ (.int .i64 0)) a l:=⟨HI2.len,fun k hk=>by
     obtain⟨b,off,e,q0,q1,q2⟩:=HI2.cells k hk;have hne:mb≠b:=by
      rintro rfl;have:=HNO.out (by omega) _ e;have h2:=hs'.own;rw[h2] at this;cases this
     exact⟨b,off,e,Za7 q0 (.inl hne),Za7 q1 (.inl hne),Za7 q2 (.inl hne)⟩⟩
    obtain⟨v',w2,o2,hrun,hwa,hca,hla⟩:=Zjw (c:=c) hm1.waits hl1 he1 hsm 24;obtain⟨av2,cv2,hv2⟩:=hwa.form;subst hv2;have HF:=Hd (HFIN.out 0 _ hm1 hl1 hb1 _ w2 o2 (by rw[if_pos hw0]) hwa hca hla);obtain⟨k0,k1,k2,k3,k4,k5,kf⟩:=cells6 hm1.blk;have hblk:=(hca.same hl1 hm1.own (by simp)).trans hm1.blk;obtain⟨j0,j1,j2,j3,j4,j5,jf⟩:=cells6 hblk;rw[HVW.out,hz] at c4 k4 hrun;clear hs' hlt' hm1 hb1 hl1 he1 hwa hca hla HI2 hw0 hblk k0 k1 k2 k3 k5 kf;have HRUN:=Hd hrun;clear hrun;go_upto_region 15 with fail;go_wp2_with (refine Zlp rfl _ _ _ rfl rfl rfl HRUN.out ?_);have hq:=HF.out;rw[List.length_append,HZ.out,Nat.zero_add] at hq;exact hq
   ·
    have hz:0<m.waits.length:=List.length_pos_iff.2 hw0;have hz1:((m.waits.length:Int) == 0)=false:=by rw[beq_eq_false_iff_ne];omega
    obtain⟨v',w2,o2,hrun,hwa,hca,hla⟩:=Zjw (c:=c) hs'.waits hlt' HI2 hsm 24;obtain⟨av2,cv2,hv2⟩:=hwa.form;subst hv2;have HF:=Hd (HFIN.out m.calls _ hs' hlt' (Chg.of_below HB.out _ _) _ w2 o2 (by rw[if_neg hw0]) hwa hca hla);have hblk:=(hca.same hlt' hs'.own (by simp)).trans hs'.blk;obtain⟨j0,j1,j2,j3,j4,j5,jf⟩:=cells6 hblk;rw[HVW.out] at c4 hrun;clear hs' hlt' hwa hca hla HI2 hw0 hblk hz;have HRUN:=Hd hrun;clear hrun;go_upto_region 15 with fail;go_wp2_with (refine Zlp rfl _ _ _ rfl rfl rfl HRUN.out ?_);have hq:=HF.out;rw[List.length_append] at hq;exact hq
end
open Go.RowKit
def Zcd (n:Nat):Nat:=4*2^(2*n)+192*2^n
theorem Zst (n:Nat) (hn:n<=8) (w:World):Calls Tryz.prog 137 #[.int .i64 n,.int .i64 40] w fun x w'=>x=.returned (.int .i64 (Zcd n))/\w=w':=by
 have HB:Hid (∀ (z:Int) (k:Nat),z=k->k<=16->Calls Tryz.prog 166 #[.int .i64 z] w fun x w'=>x=.returned (.int .i64 (2^k:Nat))/\w=w'):=Hd fun z k e hk=>by subst e;exact Zql k (by omega) w
 have hA:2^(2*n)<=65536:=Nat.le_trans (Nat.pow_le_pow_right (by omega) (show 2*n<=16 by omega)) (by decide);have hB:2^n<=65536:=Nat.le_trans (Nat.pow_le_pow_right (by omega) (show n<=16 by omega)) (by decide);have HB1:=Hd (fun z e=>HB.out z (2*n) e (by omega));have HB2:=Hd (fun z e=>HB.out z n e (by omega));unfold Zcd;obtain⟨a,ha⟩:∃ a,a=2^(2*n):=⟨_,rfl⟩;obtain⟨b,hb⟩:∃ b,b=2^n:=⟨_,rfl⟩;rw[<- ha] at hA HB1 ⊢;rw[<- hb] at hB HB2 ⊢;clear ha hb HB
 go_enter Tryz.func137,Tryz.ntmps137
 go_wp2_with fail;refine(HB1.out _ (by omega)).mono ?_;rintro x w' ⟨rfl,rfl⟩;go_wp2_with fail;refine(HB2.out _ (by omega)).mono ?_;rintro x w' ⟨rfl,rfl⟩;go_wp2_with fail;go_ret;exact⟨by congr 2,rfl⟩
theorem Ztp (n:Nat) (hn:n<=8) (w:World):Calls Tryz.prog 68 #[.int .i64 n,.int .i64 40] w fun x w'=>x=.returned (.int .i64 (Zcd n))/\w=w':=by
 have HE:=Hd (Zst n hn w)
 go_enter Tryz.func68,Tryz.ntmps68
 go_wp2_with fail;refine HE.out.mono ?_;rintro x w' ⟨rfl,rfl⟩;go_wp2_with fail;go_ret;exact⟨rfl,rfl⟩
theorem Zwj {n:Nat} (hn:n<=6):1<=Zcd n/\Zcd n<=1048576:=by
 have h1:2^(2*n)<=4096:=Nat.le_trans (Nat.pow_le_pow_right (by omega) (show 2*n<=12 by omega)) (by decide);have h2:2^n<=64:=Nat.le_trans (Nat.pow_le_pow_right (by omega) hn) (by decide);have h3:0<2^n:=Nat.pow_pos (by omega);unfold Zcd;omega
theorem Zey {n k:Nat} (hk:k<=192):k*2^n<=Zcd n:=by
 have:=Nat.mul_le_mul_right (2^n) hk;unfold Zcd;omega
theorem Ztq {n j s:Nat} (hn:1<=n) (hs:s<=40) (hj:j<5):2*2^n+j*(39*2^n+1)+s*2^n<=Zcd n:=by
 have h1:=Nat.mul_le_mul_right (2^n) hs;have h2:=Nat.mul_le_mul_right (39*2^n+1) (Nat.le_of_lt_succ hj);have h3:2^1<=2^n:=Nat.pow_le_pow_right (by omega) hn;have h4:2^(n+1)<=2^(2*n):=Nat.pow_le_pow_right (by omega) (by omega);rw[Nat.pow_succ] at h4;unfold Zcd;omega
theorem Ztr {n j s k:Nat} (hs:s<=40) (h1:1<=s) (h:k<=2*2^n+j*(39*2^n+1)+Zhu n s):k<=2*2^n+(j+1)*(39*2^n+1):=by
 have h2:=Zia n h1;have h3:=Nat.mul_le_mul_right (2^n) hs;rw[Nat.add_mul];have h4:0<2^n:=Nat.pow_pos (by omega);omega
theorem Zyc {n j k:Nat} (hj:j<=5) (h:k<=2*2^n+j*(39*2^n+1)) (hn:2<=n):k+7<=Zcd n:=by
 have h2:=Nat.mul_le_mul_right (39*2^n+1) hj;have h3:2^2<=2^n:=Nat.pow_le_pow_right (by omega) hn;have h4:2^(n+2)<=2^(2*n):=Nat.pow_le_pow_right (by omega) (by omega);rw[Nat.pow_add] at h4;unfold Zcd;omega
def two:List (Int×BF):=[(0,fun _=>false),(1,fun _=>true)]
theorem Zzk:B2 two:=⟨by simp[two],by simp[two]⟩
theorem Zrz {K:Law} (n room:Nat) (w:World) (hn:n<=64) (h1:1<=room) (h2:room<=1048576) :
 Calls Tryz.prog 67 #[.int .i64 n,.int .i64 room] w fun x w'=>∃ mb,x=.returned (.tuple #[.pointer (some ⟨mb,0,none⟩),.int .i64 0])/\∃ o m V,SatE K n (fun _=>True) room w mb two 2 w' o m V/\m.waits=[]/\m.calls=0/\m.d.pool.many=0:=by
 refine(Yap (F:=K (man0 n room).d (fun _ _=>true)) (fun _=>none) n room w (fun k r h=>by cases h) hn h1 h2).mono ?_;rintro x w1 ⟨mb,o1,rfl,hm0,hc0,hl0,_⟩;exact⟨mb,rfl,o1,man0 n room,fun _ _=>true,⟨hm0,hl0,Yan n room hn,by simp[man0,store0],trivial,by simp[man0,store0,pool0],rfl,by simp[man0,two,ef];constructor<;>rfl,ChgX.of_chg hc0 NoB⟩,rfl,rfl,rfl⟩
def OrdP (zs:List Int) (l:List Nat):Prop:=∀ j,j<zs.length->((l.getD j 0:Nat):Int)=at0 zs j
def SetP (K:Law) (q:AskD) (n:Nat) (w:World) (y:Ending) (w':World):Prop :=
 ∃ mb vl vx wb hs nx,y=.returned (.tuple #[.pointer (some ⟨mb,0,none⟩),vl,vx,.bool true])/\Below w.heap.size w wb/\hs.map Prod.snd=q.es.map fnT/\nx<=1000/\∃ o m V,LawT K n (OrdP q.order) (Zcd n) wb mb (two++hs) nx (fun ws c=>ws=q.plan/\c=0) hs hs w' o m V vl vx/\(2<=n->m.d.pool.many+7<=Zcd n)
def SetI (K:Law) (q:AskD) (n:Nat) (wb:World) (mb:Nat) (j:Nat) (s8 s9:Value) (W:World):Prop :=
 ∃ hs nx,hs.map Prod.snd=(q.es.take j).map fnT/\nx<=2+120*(j:Int)/\∃ o m V,LawT K n (OrdP q.order) (Zcd n) wb mb (two++hs) nx (fun ws c=>ws=[]/\True) hs hs W o m V s8 s9/\m.d.pool.many<=2*2^n+j*(39*2^n+1)
theorem Zis {K:Law} (hK:Zb3 K) (q:AskD) (ao ae ap:Option Addr) (co ce cp:Nat) (w:World) (h:AskAt w q ao ae ap) (hsm:Zgc q) (n:Nat) (hqn:q.vars=n) :
 Calls Tryz.prog 17 #[askV q ao ae ap co ce cp] w (SetP K q n w):=by
 have hlo:=hsm.lo;have hhi:=hsm.hi;have hes:=hsm.es;have hpl:=hsm.plan;have HSM:=Hd hsm;have HASK:=Hd h;have hn6:n<=6:=by omega
 have hn1:1<=n:=by omega
 have hrm:=Zwj hn6;obtain⟨Q,hQ⟩:∃ Q:Ending->World->Prop,Q=SetP K q n w:=⟨_,rfl⟩;rw[<- hQ];have HQ:=Hd hQ;obtain⟨w1,hw1⟩:∃ w1,w1=w.alloc (.cells #[.int .i64 q.vars,.slice ao q.order.length co,.slice ae q.es.length ce,.slice ap q.plan.length cp] 26):=⟨_,rfl⟩;have HW1:Hid (_=w1):=Hd hw1.symm;have HB1:Hid (Below w.heap.size w w1):=by rw[hw1];exact Hd (Zac _ _)
 have hblk:w1.heap[w.heap.size]?=some (.cells #[.int .i64 q.vars,.slice ao q.order.length co,.slice ae q.es.length ce,.slice ap q.plan.length cp] 26 (0,0)):=by rw[hw1];exact heap_alloc_new _ _
 have hs1:w1.heap.size=w.heap.size+1:=by rw[hw1];simp
 have HQN:=Hd hqn;rw[hqn] at hblk HW1;have d0:w1.cell? ⟨w.heap.size,0,none⟩=some (.int .i64 (n:Nat)):=by rw[cell_of_row _ _ 0 _ _ _ hblk];rfl
 have d1:w1.cell? ⟨w.heap.size,1,none⟩=some (.slice ao q.order.length co):=by rw[cell_of_row _ _ 1 _ _ _ hblk];rfl
 have d2:w1.cell? ⟨w.heap.size,2,none⟩=some (.slice ae q.es.length ce):=by rw[cell_of_row _ _ 2 _ _ _ hblk];rfl
 have d3:w1.cell? ⟨w.heap.size,3,none⟩=some (.slice ap q.plan.length cp):=by rw[cell_of_row _ _ 3 _ _ _ hblk];rfl
 have hqz:=hqn;unfold askV;rw[hqz];obtain⟨rm,hrmE⟩:∃ rm,rm=Zcd n:=⟨_,rfl⟩;have HRME:=Hd hrmE;have HRM:=Hd (fun W=>Ztp n (by omega) W);rw[<- hrmE] at HRM hrm;clear h hsm hQ hw1 hblk hrmE hqn hqz;have HNEW:=Hd (Zrz (K:=K) n rm w1.drew (by omega) hrm.1 hrm.2)
 go_enter Tryz.func17,Tryz.ntmps17
 go_upto_region 1 with fail;rw[HW1.out];refine Zap (fun W:World=>W.cell? ⟨w.heap.size,0,none⟩=some (.int .i64 (n:Nat))/\True) false 11 [(0,false),(1,false),(2,false),(3,false),(4,true),(5,true),(6,false),(7,false),(8,false),(9,false),(10,false)] (by kernel_rfl) (by kernel_rfl) ⟨d0,trivial⟩ ?_;simp only[planned,Zde]
 iterate 4
  refine Zaq rfl ?_;apply Exists.intro;refine⟨fun w' hw=>?_,?_⟩
  ·
   obtain⟨h1,_⟩:=hw;go_simp;rfl
  simp only[Zag]
 refine Zb7 (R:=fun v w'=>v=.int .i64 (rm:Nat)/\w'=w1.drew) rfl (by go_simp) ((HRM.out _).mono (fun e w' he=>?_)) ?_
 ·
  obtain⟨rfl,rfl⟩:=he;exact⟨_,rfl,⟨d0,trivial⟩,rfl,rfl⟩
 rintro v w'-⟨rfl,rfl⟩;simp only[Zag];refine Zb7 (R:=fun v w'=>∃ mb,v=.tuple #[.pointer (some ⟨mb,0,none⟩),.int .i64 0]/\∃ o m V,SatE K n (fun _=>True) rm w1.drew mb two 2 w' o m V/\m.waits=[]/\m.calls=0/\m.d.pool.many=0) rfl (by go_simp) (HNEW.out.mono (fun e w' he=>?_)) ?_
 ·
  obtain⟨mb,rfl,o,m,V,hst,hrest⟩:=he;exact⟨_,rfl,⟨(hst.chg.below0.cell (p:=⟨w.heap.size,0,none⟩) (Zaa (w:=w1.drew) d0)).trans d0,trivial⟩,mb,rfl,o,m,V,hst,hrest⟩
 rintro v w2-⟨mb,rfl,o,m,V,hst,hwt,hcl,hmn⟩;simp only[Zag]
 iterate 5
  refine Zaq rfl ?_;apply Exists.intro;refine⟨fun w' hw=>?_,?_⟩
  ·
   obtain⟨h1,_⟩:=hw;go_simp;rfl
  simp only[Zag]
 refine Zei ?_;obtain⟨wb,hwb⟩:∃ wb,wb=w1.drew:=⟨_,rfl⟩;rw[<- hwb] at hst;have HBW:Hid (Below w.heap.size w wb):=Hd (by rw[hwb];exact HB1.out.trans ((Zaf w1 1).mono HB1.out.size));have c0:wb.cell? ⟨w.heap.size,0,none⟩=some (.int .i64 (n:Nat)):=by rw[hwb];exact d0
 have c1:wb.cell? ⟨w.heap.size,1,none⟩=some (.slice ao q.order.length co):=by rw[hwb];exact d1
 have c2:wb.cell? ⟨w.heap.size,2,none⟩=some (.slice ae q.es.length ce):=by rw[hwb];exact d2
 have c3:wb.cell? ⟨w.heap.size,3,none⟩=some (.slice ap q.plan.length cp):=by rw[hwb];exact d3
 have hbn:w.heap.size<wb.heap.size:=Zaa c0;have HAB:=Hd (HASK.out.below HBW.out);clear hwb HNEW HRM d0 d1 d2 d3 HW1 hs1
 have HARR:=Hd (Zqj (K:=K) hst (by omega) (by rw[HRME.out];have:=Zey (n:=n) (k:=6) (by omega);simp[two];omega) (c:=co) (HAB.out.order.below hst.chg.below0) (fun h0 x hx=>by
  obtain⟨b,off,e,hc⟩:=HAB.out.order.cells 0 h0;rw[hx] at e;cases e;exact hst.none0 (Zaa hc)) (by
  rcases Nat.eq_zero_or_pos q.order.length with h0|h0
  ·
   exact .inl h0
  ·
   have:=HSM.out.order h0;rw[HQN.out] at this;exact .inr (Zx8 this)))
 have e0:=(hst.chg.below0.cell (p:=⟨w.heap.size,0,none⟩) (Zaa c0)).trans c0;have e1:=(hst.chg.below0.cell (p:=⟨w.heap.size,1,none⟩) (Zaa c1)).trans c1;have HWT:=Hd hwt;have HMN:=Hd hmn;clear hst hwt hcl hmn;go_wp2_with fail;refine HARR.out.mono ?_;rintro y w3 ⟨rfl,o3,m3,V3,hst3,hwt3,hcl3,hc3,hmn3⟩;have HI0:Hid (SetI K q n wb mb 0 (.slice none 0 0) (.slice none 0 0) w3):=Hd ⟨[],2,rfl,by omega,o3,m3,V3,⟨by rw[HRME.out] at hst3;exact hst3,Zzk,⟨by rw[hwt3,HWT.out],trivial⟩,⟨Zr3 _ _ _,fun k hk=>by cases hk⟩,⟨⟨[],rfl,Zr3 _ _ _,fun i v hv=>by simp at hv⟩,fun k hk=>by cases hk⟩⟩,by have:=HMN.out;simp[two] at hmn3;omega⟩;have f2:=(hst3.chg.below0.cell (p:=⟨w.heap.size,2,none⟩) (Zaa c2)).trans c2;clear hst3 hwt3 hcl3 hc3 hmn3 HARR e0 e1;go_wp2_with fail
 go_loopw [8,9,40] (fun s8 s9 s40 wr=>∃ j:Nat,j<=q.es.length/\s40=.int .i64 j/\Hid (SetI K q n wb mb j s8 s9 wr)) (fun _ _ s40 _=>q.es.length-(intOf s40).toNat)
 case atStart=>exact⟨0,Nat.zero_le _,rfl,HI0⟩
 case round =>
  clear HI0 f2
  rename World=>wy
  obtain⟨j,hj,rfl,HI⟩:=hrel;obtain⟨hs,nx,hsnd,hnx,hle⟩:=HI.out;obtain⟨o0,m0,V0,hle0,hmn0⟩:=hle;have HLE:Hid (∃ o m V,LawT K n (OrdP q.order) (Zcd n) wb mb (two++hs) nx (fun ws c=>ws=[]/\True) hs hs wy o m V u8 u9/\m.d.pool.many<=2*2^n+j*(39*2^n+1)):=Hd ⟨o0,m0,V0,hle0,hmn0⟩;have hle1:=hle0.below0;have HLB0:=Hd hle1;have HSND:=Hd hsnd;have hhl:hs.length=j:=by have:=congrArg List.length hsnd;simpa [Nat.min_eq_left hj] using this
  clear HI hsnd hle0 hmn0 hle1 o0 m0 V0
  by_cases hlt:j<q.es.length
  ·
   have hjz:(j:Int)<q.es.length:=by omega
   have hb0:=HLB0.out;obtain⟨b,off,x0,x1,x2,ea,k0,k1,k2,hx⟩:=HAB.out.es.cells j hlt;subst ea;obtain⟨zo,zv,za,zn,zc,rfl,rfl,rfl⟩:=hx.parts;have HEX:=Hd (HSM.out.expr _ (List.getElem_mem hlt));have hsz40:=HEX.out.1;have hsz1:=ExT.size_pos q.es[j];obtain⟨e,he⟩:∃ e,e=q.es[j]:=⟨_,rfl⟩;rw[<- he] at hx HEX hsz40 hsz1;have HX:=Hd hx;have q0:=(hb0.cell (p:=⟨b,off+j*3,none⟩) (Zaa k0)).trans k0;have q1:=(hb0.cell (p:=⟨b,off+j*3+1,none⟩) (Zaa k1)).trans k1;have q2:=(hb0.cell (p:=⟨b,off+j*3+2,none⟩) (Zaa k2)).trans k2;have HTK:Hid ((q.es.take (j+1)).map fnT=(q.es.take j).map fnT++[fnT e]):=Hd (by rw[List.take_succ_eq_append_getElem hlt,List.map_append,he];rfl);obtain⟨wz,hwz⟩:∃ wz,wz=wy.alloc (.cells #[.int .i64 zo,.int .i64 zv,.slice za zn zc] 86):=⟨_,rfl⟩;have HWZ:Hid (_=wz):=Hd hwz.symm;have hbz:Below wy.heap.size wy wz:=by rw[hwz];exact Zac _ _
   have hblk:wz.heap[wy.heap.size]?=some (.cells #[.int .i64 zo,.int .i64 zv,.slice za zn zc] 86 (0,0)):=by rw[hwz];exact heap_alloc_new _ _
   have p0:wz.cell? ⟨wy.heap.size,0,none⟩=some (.int .i64 zo):=by rw[cell_of_row _ _ 0 _ _ _ hblk];rfl
   have p1:wz.cell? ⟨wy.heap.size,1,none⟩=some (.int .i64 zv):=by rw[cell_of_row _ _ 1 _ _ _ hblk];rfl
   have p2:wz.cell? ⟨wy.heap.size,2,none⟩=some (.slice za zn zc):=by rw[cell_of_row _ _ 2 _ _ _ hblk];rfl
   obtain⟨o4,m4,V4,lt0,mn4⟩:=HLE.out;have lt4:=lt0.below hbz;have n4:o4 wy.heap.size=none:=lt0.sat.lt.none (Nat.le_refl _);have hlk:∀ g,u8.ownBlock=some g->g<wy.heap.size:=fun g hg=>(lt0.l.own.lt g hg).2
   have hll:(two++hs).length=2+j:=by simp[two,hhl];omega
   have HCALL:=Hd (Zol hK e _ (two++hs) nx wz o4 m4 V4 _ lt4.sat ⟨lt4.st.1,mn4⟩ lt4.b2 HEX.out.2.1.valid (by have:=HEX.out.2.2;rw[HQN.out] at this;exact this) hx (by omega) (Ztq hn1 hsz40 (by omega)));have HLT4:=Hd lt4;clear hb0 k0 k1 k2 hx hbz hblk hwz lt4 HLE he lt0;go_upto_region 9 with fail;rw[HWZ.out];clear q0 q1 q2;go_wp2_with fail;refine HCALL.out.mono ?_;rintro y w5 ⟨k,rfl,hk,o5,m5,V5,hc5,⟨hw5,hmn5⟩,hs5⟩;have HMN5:Hid (m5.d.pool.many<=2*2^n+(j+1)*(39*2^n+1)):=Hd (Ztr hsz40 hsz1 hmn5);have HLT5:Hid (LawT K n (OrdP q.order) (Zcd n) wb mb (two++(hs++[(k,fnT e)])) (k+1) (fun ws c=>ws=[]/\True) hs hs w5 o5 m5 V5 u8 u9):=Hd (HLT4.out.go (by rw[<- List.append_assoc];exact hs5) (Zzk.app _) ⟨hw5,trivial⟩ hc5);have r0:=hc5.cell (p:=⟨wy.heap.size,0,none⟩) p0 n4 (fun e=>e);have r1:=hc5.cell (p:=⟨wy.heap.size,1,none⟩) p1 n4 (fun e=>e);have r2:=hc5.cell (p:=⟨wy.heap.size,2,none⟩) p2 n4 (fun e=>e);have n5:=hc5.none' (Zaa p0) n4;have hsz5:wb.heap.size<=w5.heap.size:=hs5.chg.size;clear hc5 hw5 hs5 hmn5 HCALL p0 p1 p2 HLT4;go_upto_region 13 with (at_builtin;refine Zc5 Znd _ rfl _ _ rfl wb.heap.size _ (Zba (hs.map Prod.fst)) _ rfl rfl rfl rfl rfl (by exact HLT5.out.l.own) (by simp[Zba];omega) hsz5 ?_;intro v6 w6 hown6 g1 g2 g3 g4 hk6)
   have hw6:=Zsj g1 g2 g3 g4 hk6;have hk6':w6.heap[wy.heap.size]?=w5.heap[wy.heap.size]?:=hw6.keep _ (Zaa r0) (fun e=>by have:=hlk _ e;omega);have t0:=(World.cell?_of_block (w:=w5) (a:=⟨wy.heap.size,0,none⟩) hk6').trans r0;have t1:=(World.cell?_of_block (w:=w5) (a:=⟨wy.heap.size,1,none⟩) hk6').trans r1;have t2:=(World.cell?_of_block (w:=w5) (a:=⟨wy.heap.size,2,none⟩) hk6').trans r2;have HLT6:=Hd (HLT5.out.appL hown6 g1 g2 g3 g4 hk6 (p:=(k,fnT e)));have a0:=(HLT6.out.below0.cell (p:=⟨w.heap.size,0,none⟩) (Zaa c0)).trans c0;have HTB:=Hd (Zl2 e _ n (by omega) w6 (by omega) HEX.out.2.1 (HX.out.below HLT6.out.below0));clear hw6 hk6' hown6 g1 g2 g3 g4 hk6 r0 r1 r2 HLT5 hlk;go_wp2_with fail;refine HTB.out.mono ?_;rintro y w7 ⟨v7,rfl,hown7,hb7⟩;obtain⟨av,cv,rfl,_⟩:=hown7.slice;have HLB:Hid (LawB w7 o5 wb.heap.size (.slice av (Zbx (tabB n (fnT e))).length cv) (tabB n (fnT e))):=Hd (Zxu (n:=n) hown7 (by rw[Zbo];exact Zlk (by omega)) HLT6.out.sat.lt HLT6.out.sat.chg.size);have HLT7:=Hd (HLT6.out.below hb7);obtain⟨rs,hrs1,hrs2,hrs3⟩:=HLT7.out.x.ex;have HR2:=Hd hrs2;have HR3:=Hd hrs3;have hrl:rs.length=hs.length:=by rw[hrs1];simp
   have hsz7:wb.heap.size<=w7.heap.size:=HLT7.out.sat.chg.size;clear hown7 hb7 hrs2 hrs3 HTB HLT6 t0 t1 t2 a0;go_upto_region 14 with (at_builtin;refine Zc5 Zz5 _ rfl _ _ rfl wb.heap.size _ rs _ rfl rfl rfl rfl rfl (by exact HR2.out) (by omega) hsz7 ?_;intro v8 w8 hown8 g1 g2 g3 g4 hk8)
   have HLT8:=Hd (HLT7.out.appX HLB.out rfl hrl HR2.out HR3.out hown8 g1 g2 g3 g4 hk8 (p:=(k,fnT e)));have HIN:Hid (SetI K q n wb mb (j+1) v6 v8 w8):=Hd ⟨hs++[(k,fnT e)],k+1,by rw[List.map_append,HSND.out,HTK.out];rfl,by omega,o5,m5,V5,HLT8.out,HMN5.out⟩;clear hown8 g1 g2 g3 g4 hk8 HR2 HR3 HLT7 HLB HLT8;go_wp2_with fail;go_roundw
   case rel=>exact⟨j+1,by omega,by go_num,HIN⟩
   case measure=>simp[intOf];omega
  ·
   have hje:j=q.es.length:=by omega
   have hjz:¬ (j:Int)<q.es.length:=by omega
   obtain⟨o4,m4,V4,lt4,mn4⟩:=HLE.out;have HMN4:=Hd mn4;clear mn4;have e3:=(lt4.below0.cell (p:=⟨w.heap.size,3,none⟩) (Zaa c3)).trans c3;have hw4:m4.waits=[]:=lt4.st.1;have hcode:Ze5 n m4.waits.length q.plan=0:=by
    rw[hw4];have:=HSM.out.planOk;rw[HQN.out] at this;exact this
   have HPL:=Hd (Zq3 lt4.sat (c:=cp) (HAB.out.plan.below lt4.below0) (fun h0 x hx=>by
    obtain⟨b,off,e,hc,_⟩:=HAB.out.plan.cells 0 h0;rw[hx] at e;cases e;exact lt4.sat.none0 (Zaa hc)) (by rw[hw4];simp))
   rw[hcode] at HPL;have HLT4:=Hd lt4;have HW4:=Hd hw4;clear lt4 hw4 hcode HLE;go_wp2_with fail;refine HPL.out.mono ?_;rintro y w5 ⟨rfl,o5,m5,hpd⟩
   have HF:Hid (Q (.returned (.tuple #[.pointer (some ⟨mb,0,none⟩),u8,u9,.bool true])) w5):=Hd (by
    rw[HQ.out];refine⟨mb,u8,u9,wb,hs,nx,rfl,HBW.out,by rw[HSND.out,hje,List.take_length],by omega,o5,m5,V4,HLT4.out.go hpd.sat HLT4.out.b2 ?_ (ChgX.of_chg hpd.chg NoB),?_⟩
    rotate_left
    ·
     rw[hpd.d];exact Zyc (by omega) HMN4.out
    have:=hpd.yes rfl;rw[HW4.out] at this;exact⟨by simpa using this.1,by simpa using this.2⟩)
   clear hpd HPL;go_wp2_with fail;refine bodyPost_ret (Zc1 rfl _ _ _) rfl ?_;exact HF.out
open Go.RowKit
abbrev L16 (w:World) (mb:Nat) (fs:List (Int×BF)) (nx:Int) (W:World):Prop:=StG Zhj 3 20000 w mb fs nx [] W
def ex16:BF:=Zd4 (varF 0) (varF 1) (fun _=>false)
def ps16:List (Int×Int):=[(0,1),(1,0)]
def l16A:List (Int×BF):=two++[(2,varF 0)]
def l16B:List (Int×BF):=l16A++[(3,varF 1)]
def l16C:List (Int×BF):=l16B++[(4,ex16)]
def l16D:List (Int×BF):=l16C++[(5,Zbd (sigR ps16) ex16)]
def l16E:List (Int×BF):=l16D++[(6,Zbd (sigC 1 (fun _=>false)) ex16)]
theorem Zxi:Zbd (sigR ps16) ex16=ex16:=by
 funext ρ
 show iteB (ρ 1) (ρ 0) false=iteB (ρ 0) (ρ 1) false
 cases ρ 0<;>cases ρ 1<;>rfl
theorem Zu1:Zbd (sigC 1 (fun _=>false)) ex16=fun _=>false:=by
 funext ρ
 show iteB (ρ 0) false false=false
 cases ρ 0<;>rfl
theorem Yav:Zb0 3 (erR 3) ps16=0:=by decide
theorem Zob:((0:Int),(fun _=>false:BF))∈two:=by simp[two]
theorem StG.sub {K:Law} {n room:Nat} {w0:World} {mb:Nat} {fs:List (Int×BF)} {nx:Int} {ws0:List Ev} {F:BF} {o:Own} {w w':World} {x:Ending} (h:NewF K n room w0 mb fs nx ws0 F o w x w'):x=.returned (.tuple #[.int .i64 nx,.int .i64 0])/\StG K n room w0 mb (fs++[(nx,F)]) (nx+1) ws0 w':=by
 obtain⟨q1,o',m',V',_,q2,q3⟩:=h;exact⟨q1,o',m',V',q2,q3⟩
theorem Zbi (w:World):Calls Tryz.prog 27 #[] w fun x w'=>x=.returned (.bool true)/\Below w.heap.size w w':=by
 have HNEW:=Hd (Zrz (K:=Zhj) 3 20000 w (by omega) (by omega) (by omega));have HV:Hid (∀ mb W,L16 w mb two 2 W->Calls Tryz.prog 20 #[.pointer (some ⟨mb,0,none⟩),.int .i64 0] W fun x w''=>x=.returned (.tuple #[.int .i64 2,.int .i64 0])/\L16 w mb l16A 3 w'') :=
  Hd fun mb W g=>g.var Zbn (by omega) (by decide) (v:=0) (by omega)
 have HV1:Hid (∀ mb W,L16 w mb l16A 3 W->Calls Tryz.prog 20 #[.pointer (some ⟨mb,0,none⟩),.int .i64 1] W fun x w''=>x=.returned (.tuple #[.int .i64 3,.int .i64 0])/\L16 w mb l16B 4 w'') :=
  Hd fun mb W g=>g.var Zbn (by omega) (by decide) (v:=1) (by omega)
 have HIT:Hid (∀ mb W,L16 w mb l16B 4 W->Calls Tryz.prog 21 #[.pointer (some ⟨mb,0,none⟩),.int .i64 2,.int .i64 3,.int .i64 0] W fun x w''=>x=.returned (.tuple #[.int .i64 4,.int .i64 0])/\L16 w mb l16C 5 w'') :=
  Hd fun mb W g=>g.ite Zbn (by omega) (by decide) (F:=varF 0) (G:=varF 1) (H:=fun _=>false) (by simp[l16B,l16A]) (by simp[l16B]) (by simp[l16B,l16A,Zob])
 have HRE:Hid (∀ mb W,L16 w mb l16C 5 W->∀ W2,W2=W.alloc (.cells #[.int .i64 0,.int .i64 1,.int .i64 1,.int .i64 0] 66)->Calls Tryz.prog 38 #[.pointer (some ⟨mb,0,none⟩),.int .i64 4,.slice (some ⟨W.heap.size,0,none⟩) 2 2] W2 fun x w''=>x=.returned (.tuple #[.int .i64 5,.int .i64 0])/\L16 w mb l16D 6 w'') :=
  Hd fun mb W ⟨o,m,V,h1,h2⟩ W2 hW2=>by
   have hb:Below W.heap.size W W2:=by rw[hW2];exact Zac _ _
   have hblk:W2.heap[W.heap.size]?=some (.cells #[.int .i64 0,.int .i64 1,.int .i64 1,.int .i64 0] 66 (0,0)):=by rw[hW2];exact heap_alloc_new _ _
   have hc:∀ j u,(#[.int .i64 0,.int .i64 1,.int .i64 1,.int .i64 0]:Array Value)[j]?=some u->W2.cell? ⟨W.heap.size,j,none⟩=some u:=fun j u hj=>by rw[cell_of_row _ _ j _ _ _ hblk];exact hj
   have hz:Zdc W2 (some ⟨W.heap.size,0,none⟩) ps16:=⟨by decide,fun k hk=>by
    rcases(show k=0\/k=1 by simp[ps16] at hk;omega) with rfl|rfl
    ·
     exact⟨_,0,rfl,hc _ _ rfl,hc _ _ rfl⟩
    ·
     exact⟨_,0,rfl,hc _ _ rfl,hc _ _ rfl⟩⟩
   refine(Ziv (ps:=ps16) (c:=2) Zbn (h2.below hb) (F:=ex16) (by simp[l16C]) hz h1 (by omega) (by decide)).mono ?_;rintro x w' ⟨hp,_⟩;exact StG.sub (hp Yav)
 have HCO:Hid (∀ mb W,L16 w mb l16D 6 W->Calls Tryz.prog 29 #[.pointer (some ⟨mb,0,none⟩),.int .i64 4,.int .i64 1,.int .i64 0] W fun x w''=>x=.returned (.tuple #[.int .i64 6,.int .i64 0])/\L16 w mb l16E 7 w'') :=
  Hd fun mb W ⟨o,m,V,h1,h2⟩=>(Zht Zbn h2 (kf:=4) (kg:=0) (F:=ex16) (G:=fun _=>false) (by simp[l16D,l16C]) (by simp[l16D,l16C,l16B,l16A,Zob]) 1 (by omega) h1 (by omega) (by decide)).mono fun x w' hp=>StG.sub hp
 have HS4:Hid (∀ mb W,L16 w mb l16E 7 W->Calls Tryz.prog 22 #[.pointer (some ⟨mb,0,none⟩),.int .i64 4,.int .i64 5] W fun x w''=>x=.returned (.tuple #[.bool true,.int .i64 0])/\W=w'') :=
  Hd fun mb W g=>(g.same (k:=4) (l:=5) (F:=ex16) (G:=Zbd (sigR ps16) ex16) (by simp[l16E,l16D,l16C]) (by simp[l16E,l16D])).mono (by
   rintro x w' ⟨⟨b,q1,q2⟩,q3⟩;rw[q1,q2.2 Zxi.symm];exact⟨rfl,q3⟩)
 have HS5:Hid (∀ mb W,L16 w mb l16E 7 W->Calls Tryz.prog 22 #[.pointer (some ⟨mb,0,none⟩),.int .i64 6,.int .i64 0] W fun x w''=>x=.returned (.tuple #[.bool true,.int .i64 0])/\W=w'') :=
  Hd fun mb W g=>(g.same (k:=6) (l:=0) (F:=Zbd (sigC 1 (fun _=>false)) ex16) (G:=fun _=>false) (by simp[l16E]) (by simp[l16E,l16D,l16C,l16B,l16A,Zob])).mono (by
   rintro x w' ⟨⟨b,q1,q2⟩,q3⟩;rw[q1,q2.2 Zu1];exact⟨rfl,q3⟩)
 go_enter Tryz.func27,Tryz.ntmps27
 go_wp2_with fail;refine HNEW.out.mono ?_;rintro x w1 ⟨mb,rfl,o,m,V,hst,hwt,_,hmn⟩;have H1:=Hd (HV.out mb w1 ⟨o,m,V,by rw[hwt];exact List.suffix_refl _,hst⟩);clear hst hwt hmn HNEW HV;go_wp2_with fail;refine H1.out.mono ?_;rintro x w2 ⟨rfl,h2⟩;have H2:=Hd (HV1.out mb w2 h2);clear h2 H1 HV1;go_wp2_with fail;refine H2.out.mono ?_;rintro x w3 ⟨rfl,h3⟩;have H3:=Hd (HIT.out mb w3 h3);clear h3 H2 HIT;go_wp2_with fail;refine H3.out.mono ?_;rintro x w4 ⟨rfl,h4⟩;have H4:=Hd (HRE.out mb w4 h4 _ rfl);clear h4 H3 HRE;go_wp2_with fail;refine H4.out.mono ?_;rintro x w5 ⟨rfl,h5⟩;have H5:=Hd (HCO.out mb w5 h5);clear h5 H4 HCO;go_wp2_with fail;refine H5.out.mono ?_;rintro x w6 ⟨rfl,h6⟩;have H6:=Hd h6;have H6a:=Hd (HS4.out mb w6 h6);have H6b:=Hd (HS5.out mb w6 h6);clear h6 H5 HS4 HS5;go_wp2_with fail;refine H6a.out.mono ?_;rintro x w' ⟨rfl,rfl⟩;go_wp2_with fail;refine H6b.out.mono ?_;rintro x w' ⟨rfl,rfl⟩;go_wp2_with fail;go_ret;exact⟨rfl,H6.out.below0⟩
open Go.RowKit
def Zma (i v:Nat):Nat:=if bitB i v then i-2^v else i+2^v
theorem Zqc (i v:Nat):Zma i v=cofI i v (!bitB i v):=by
 unfold Zma cofI;cases bitB i v<;>simp
theorem Ztw (i v u:Nat):bitB (Zma i v) u=if u=v then !bitB i v else bitB i u:=by rw[Zqc,Zkq]
theorem Zyu {n i v:Nat} (hi:i<2^n) (hv:v<n):Zma i v<2^n:=by rw[Zqc];exact Zqo hi hv
def Zhk (l:List (Nat×BF)) (u:Nat):Option BF:=(l.find? fun p=>p.1 == u).map (·.2)
theorem Zin {l:List (Nat×BF)} {p:Nat×BF} (h:p.1∉l.map (·.1)) (u:Nat):Zhk (l++[p]) u=if u=p.1 then some p.2 else Zhk l u:=by
 unfold Zhk;rw[List.find?_append]
 by_cases e:u=p.1
 ·
  rw[if_pos e];subst e
  have:l.find? (fun q=>q.1 == p.1)=none:=List.find?_eq_none.2 (fun q hq=>by
   intro e;simp only[beq_iff_eq] at e;exact h (List.mem_map.2 ⟨q,hq,e⟩))
  rw[this];simp
 ·
  rw[if_neg e];have:(p.1 == u)=false:=by simpa using fun h=>e h.symm
  simp[List.find?,this]
theorem Zhz {l:List (Nat×BF)} {u:Nat} (h:u∉l.map (·.1)):Zhk l u=none:=by
 unfold Zhk
 rw[List.find?_eq_none.2 (fun p hp=>by
  intro e;simp only[beq_iff_eq] at e;exact h (List.mem_map.2 ⟨p,hp,e⟩))]
 rfl
def sigP (l:List (Nat×BF)):Nat->BF:=fun u=>match Zhk l u with
 | some G=>G
 | none=>varF u
def Zkj (l:List (Nat×BF)) (n i a:Nat):Prop:=a<2^n/\∀ u,u<n->bitB a u=sigP l u (Zb1 (Zce i n))
theorem Ztk {n i:Nat} (hi:i<2^n):Zkj [] n i i:=⟨hi,fun u hu=>by
 show _=Zb1 (Zce i n) u
 rw[Zdn];simp[hu]⟩
theorem Ztj {l:List (Nat×BF)} {n i a:Nat} {p:Nat×BF} (h:Zkj l n i a) (hp:p.1∉l.map (·.1)) (hv:p.1<n) {b:Bool} (hb:b=(p.2 (Zb1 (Zce i n)) != bitB i p.1)):Zkj (l++[p]) n i (if b then Zma a p.1 else a):=by
 have hat:bitB a p.1=bitB i p.1:=by
  rw[h.2 _ hv];unfold sigP;rw[Zhz hp]
  show Zb1 (Zce i n) p.1=_
  rw[Zdn];simp[hv]
 have hsig:∀ u,u<n->sigP (l++[p]) u (Zb1 (Zce i n))=if u=p.1 then p.2 (Zb1 (Zce i n)) else bitB a u:=fun u hu=>by
  by_cases e:u=p.1
  ·
   rw[if_pos e];unfold sigP;rw[Zin hp,if_pos e]
  ·
   rw[if_neg e,h.2 u hu];unfold sigP;rw[Zin hp,if_neg e]
 cases b with
 | true =>
   refine⟨Zyu h.1 hv,fun u hu=>?_⟩;rw[hsig u hu,if_pos rfl,Ztw]
   by_cases e:u=p.1
   ·
    rw[if_pos e,if_pos e,hat];revert hb;cases p.2 (Zb1 (Zce i n))<;>cases bitB i p.1<;>simp
   ·
    rw[if_neg e,if_neg e]
 | false =>
   refine⟨h.1,fun u hu=>?_⟩;rw[hsig u hu]
   by_cases e:u=p.1
   ·
    rw[if_pos e]
    show bitB a u=_
    rw[e,hat];revert hb;cases p.2 (Zb1 (Zce i n))<;>cases bitB i p.1<;>simp
   ·
    rw[if_neg e];rfl
theorem Zwb {l:List (Nat×BF)} {n i a:Nat} {F:BF} (h:Zkj l n i a) (hl:∀ p∈l,p.1<n):(tabB n F).getD a false=Zbd (sigP l) F (Zb1 (Zce i n)):=by
 rw[Zfe h.1];unfold Zbd;congr 1;funext u;rw[Zdn]
 by_cases e:u<n
 ·
  rw[h.2 u e];simp[e]
 ·
  have hn:u∉l.map (·.1):=fun hm=>by
   obtain⟨p,hp,rfl⟩:=List.mem_map.1 hm;exact e (hl p hp)
  unfold sigP;rw[Zhz hn]
  show _=Zb1 (Zce i n) u
  rw[Zdn];simp[e]
theorem Zty (i v:Nat) (hi:i<=1048576) (hv:v<=20) (w:World):Calls Tryz.prog 99 #[.int .i64 i,.int .i64 v] w fun x w'=>x=.returned (.int .i64 (Zma i v))/\w=w':=by
 have HS:Hid (∀ k,k<=v->2^k<=1048576):=Hd fun k hk=>Zef (by omega)
 have hpos:0<2^v:=Nat.pow_pos (by omega);have hsm:=Zef hv;obtain⟨p,hp⟩:∃ p,p=2^v:=⟨_,rfl⟩;rw[<- hp] at hpos hsm;have hdiv:i/p<=i:=Nat.div_le_self _ _;obtain⟨b,hb⟩:∃ b,b=bitB i v:=⟨_,rfl⟩;have hF:((wrap64 ((i:Int)/(p:Int))).tmod 2 == 1)=b:=by
  rw[hb];unfold bitB;rw[<- hp];have e0:(i:Int)/(p:Int)=((i/p:Nat):Int):=rfl;rw[e0]
  generalize i/p=q at hdiv ⊢
  rw[IntWalk.wrap64_in _ (by omega)];have e1:Int.tmod (q:Int) 2=((q%2:Nat):Int):=by rw[Int.tmod_eq_emod_of_nonneg (by omega)];rfl
  rw[e1]
  by_cases h:q%2=1
  ·
   rw[h];rfl
  ·
   have:((q%2:Nat):Int)≠1:=by omega
   rw[beq_eq_false_iff_ne.2 this,decide_eq_false h]
 have HF:=Hd hF;have HP:=Hd hp;have HT:Hid (Zma i v=if b then i-p else i+p):=Hd (by unfold Zma;rw[hb,hp]);have HLE:Hid (b=true->p<=i):=Hd fun e=>by
  rw[hb] at e;unfold bitB at e;rw[decide_eq_true_eq,<- hp] at e;rcases Nat.lt_or_ge i p with c|c
  ·
   rw[Nat.div_eq_of_lt c] at e;omega
  ·
   exact c
 clear hp hb hF
 go_enter Tryz.func99,Tryz.ntmps99
 go_wp2_with fail
 go_loopw [5,6] (fun s5 s6 wr=>∃ k q:Nat,k<=v/\s5=.int .i64 q/\s6=.int .i64 k/\w=wr/\Hid (2^k=q)) (fun _ s6 _=>v-(intOf s6).toNat)
 case atStart=>exact⟨0,1,Nat.zero_le _,rfl,rfl,rfl,Hd rfl⟩
 case round =>
  obtain⟨k,q,hk,rfl,rfl,rfl,HQ⟩:=hrel
  by_cases hlt:k<v
  ·
   have hp:q<=1048576:=by rw[<- HQ.out];exact HS.out k hk
   go_wp2_with fail;go_roundw
   case rel=>exact⟨k+1,2*q,by omega,by go_num,by go_num,by simp,Hd (by rw[Nat.pow_succ,HQ.out];omega)⟩
   case measure=>simp[intOf];omega
  ·
   obtain rfl:k=v:=by omega
   obtain rfl:q=p:=by rw[<- HQ.out,HP.out]
   cases b with
   | true =>
     have hle:=HLE.out rfl;have hF:=HF.out;clear HF HQ HP;go_wp2_with fail;go_ret;exact⟨by rw[HT.out];go_num,rfl⟩
   | false =>
     have hF:=HF.out;clear HF HQ HP;go_wp2_with fail;go_ret;exact⟨by rw[HT.out];go_num,rfl⟩
open Go.RowKit
structure Zfv (n:Nat) (w:World) (a:Option Addr) (l:List (Nat×BF)):Prop where
 len:l.length<=9223372036854775807
 cells:∀ k,∀ hk:k<l.length,∃ b off ta tc,a=some ⟨b,off,none⟩/\w.cell? ⟨b,off+k*2,none⟩=some (.int .i64 (l[k].1:Nat))/\w.cell? ⟨b,off+k*2+1,none⟩=some (.slice ta (2^n) tc)/\Zbt w ta (tabB n l[k].2)
theorem Zfv.below {n:Nat} {w w':World} {a:Option Addr} {l:List (Nat×BF)} (h:Zfv n w a l) (hb:Below w.heap.size w w'):Zfv n w' a l :=
 ⟨h.len,fun k hk=>by
  obtain⟨b,off,ta,tc,e,c0,c1,h1⟩:=h.cells k hk;exact⟨b,off,ta,tc,e,(hb.cell (p:=⟨b,off+k*2,none⟩) (Zaa c0)).trans c0,(hb.cell (p:=⟨b,off+k*2+1,none⟩) (Zaa c1)).trans c1,h1.below hb⟩⟩
theorem Zg8 (n:Nat) (hn:n<=16) (F:BF) (au:Option Addr) (cu:Nat) (a:Option Addr) (c:Nat) (l:List (Nat×BF)) (w:World) (h1:Zbt w au (tabB n F)) (h2:Zfv n w a l) (hnd:(l.map (·.1)).Nodup) (hv:∀ p∈l,p.1<n) :
 Calls Tryz.prog 32 #[.slice au (2^n) cu,.slice a l.length c] w (RefT n (Zbd (sigP l) F) w):=by
 have hlen:2^n<=65536:=Nat.pow_le_pow_right (n:=2) (by omega) hn;have hll:=h2.len;obtain⟨L,hL⟩:∃ L,L=2^n:=⟨_,rfl⟩;obtain⟨T,hT⟩:∃ T,T=tabB n (Zbd (sigP l) F):=⟨_,rfl⟩;have hTl:T.length=L:=by rw[hT,Zbo,hL]
 have HTL:=Hd hTl;have H1:=Hd h1;have H2:=Hd h2;have HLL:=Hd hL;have HND:=Hd hnd;have HV:=Hd hv;have HVAL:Hid (∀ i at_,i<L->Zkj l n i at_->T.getD i false=(tabB n F).getD at_ false):=Hd fun i at_ hi hp=>by
  rw[Zwb hp hv,hT,Zfe (by rw[<- hL];exact hi)]
 obtain⟨P,hP⟩:∃ P,P=RefT n (Zbd (sigP l) F) w:=⟨_,rfl⟩;have HEND:Hid (∀ g W,OwnB W w.heap.size (.slice (some ⟨g,0,none⟩) L L) T->Below w.heap.size w W->P (.returned (.slice (some ⟨g,0,none⟩) L L)) W):=Hd fun g W h3 h4=>by
  rw[hP];exact⟨_,rfl,by rw[<- hT];exact h3.boolsIs (by rw[hTl];omega),h4⟩
 rw[<- hP,<- hL];rw[<- hL] at hlen;clear hP hT hTl hL h1 h2 hnd hv
 go_enter Tryz.func32,Tryz.ntmps32
 go_wp2_with (at_make;refine Zfg Ze8 rfl _ _ rfl w.heap.size w _ L rfl rfl rfl (by omega) (Nat.le_refl _) (Below.refl _ _) ?_;intro g w1 hown1 hb1 hs1 hk1 hg1 hgx;clear hgx)
 go_loopw [6,7,8] (fun s6 _ _ wr=>∃ i:Nat,i<=L/\s6=.int .i64 i/\OwnB wr w.heap.size (.slice (some ⟨g,0,none⟩) L L) (T.take i++(List.replicate L false).drop i)/\Below w.heap.size w wr) (fun s6 _ _ _=>L-(intOf s6).toNat)
 case atStart=>exact⟨0,by omega,rfl,by unfold OwnB;simpa [Zbx] using hown1,hb1⟩
 case round =>
  clear hown1 hb1;obtain⟨i,hi,rfl,hown,hbel⟩:=hrel;have HOWN:=Hd hown;have HBEL:=Hd hbel
  by_cases hlt:i<L
  ·
   have hiz:(i:Int)<(L:Int):=by omega
   have hi2:i<=1048576:=by omega
   have HP0:Hid (Zkj (l.take 0) n i i):=Hd (Ztk (by rw[<- HLL.out];exact hlt));clear hown hbel;go_wp2_with fail
   go_loopw [7,8] (fun s7 s8 wr=>∃ k at_:Nat,k<=l.length/\at_<=1048576/\s7=.int .i64 at_/\s8=.int .i64 k/\Hid (OwnB wr w.heap.size (.slice (some ⟨g,0,none⟩) L L) (T.take i++(List.replicate L false).drop i))/\Hid (Below w.heap.size w wr)/\Hid (Zkj (l.take k) n i at_)) (fun _ s8 _=>l.length-(intOf s8).toNat)
   case atStart=>exact⟨0,i,Nat.zero_le _,hi2,rfl,rfl,HOWN,HBEL,HP0⟩
   case round =>
    clear HOWN HBEL HP0;obtain⟨k,at_,hk,hat,rfl,rfl,HOWN,HBEL,HPA⟩:=hrel
    by_cases hltk:k<l.length
    ·
     have hkz:(k:Int)<(l.length:Int):=by omega
     obtain⟨b,off,ta,tc,rfl,c0,c1,hbo⟩:=(H2.out.below HBEL.out).cells k hltk;obtain⟨b1,of1,rfl,c2⟩:=hbo.cells i (by rw[Zbo,<- HLL.out];exact hlt);have HTK:Hid (l.take (k+1)=l.take k++[l[k]]):=Hd (List.take_succ_eq_append_getElem hltk)
     have HNI:Hid (l[k].1∉(l.take k).map (·.1)):=Hd (by
      have hnd:=HND.out;rw[<- List.take_append_drop (k+1) l,HTK.out] at hnd;simp only[List.append_assoc,List.map_append,List.map_cons,List.map_nil] at hnd;rw[List.nodup_append] at hnd;intro hin;exact hnd.2.2 _ hin _ (by simp) rfl)
     have hvn:=HV.out l[k] (List.getElem_mem hltk);obtain⟨p,hp⟩:∃ p,p=l[k]:=⟨_,rfl⟩;rw[<- hp] at c0 c2 HTK HNI hvn;obtain⟨pv,G⟩:=p;dsimp only at c0 c2 HTK HNI hvn;rw[Zfe (by rw[<- HLL.out];exact hlt)] at c2;have d0:wr.drew.cell? ⟨b,off+k*2,none⟩=some (.int .i64 (pv:Nat)):=c0;have d1:wr.drew.cell? ⟨b,off+k*2+1,none⟩=some (.slice (some ⟨b1,of1,none⟩) (2^n) tc):=c1;obtain⟨y,hy⟩:∃ y,y=G (Zb1 (Zce i n)):=⟨_,rfl⟩;have d2:wr.drew.cell? ⟨b1,of1+i,none⟩=some (.bool y):=by rw[hy];exact c2
     rw[<- HLL.out] at d1;obtain⟨z,hz⟩:∃ z,z=bitB i pv:=⟨_,rfl⟩;have HTR:=Hd (Zlm i pv hi2 (by omega) wr.drew);rw[<- hz] at HTR;have HTU:=Hd (Zty at_ pv hat (by omega) wr.drew);have hst:=Ztj (p:=(pv,G)) HPA.out HNI.out hvn (b:=(y != z)) (by rw[hy,hz]);rw[<- HTK.out] at hst;have HB2:Hid (Below w.heap.size w wr.drew):=Hd (HBEL.out.trans ((Zaf wr 1).mono HBEL.out.size));have HO2:Hid (OwnB wr.drew w.heap.size (.slice (some ⟨g,0,none⟩) L L) (T.take i++(List.replicate L false).drop i)):=Hd HOWN.out;have HST:=Hd hst;have HLT:Hid (∀ a,Zkj (l.take (k+1)) n i a->a<=1048576):=Hd fun a h=>by
      have:=h.1;rw[<- HLL.out] at this;omega
     clear hp c0 c1 c2 hbo hy hz hst HTK HNI hvn HPA HOWN HBEL H1 H2;go_upto_region 9 with fail;refine Zfb [0,1,2,3,4,5,6,7,8,9,10,11,12,13,14,15] (fun W'=>W'=wr.drew) (fun ch w'=>False) (fun c a w hd h=>h.elim) (by kernel_rfl) rfl ?_
     iterate 14
      refine Zdd rfl rfl (by kernel_rfl) ?_;apply Exists.intro;refine⟨fun w' hw=>?_,?_⟩
      ·
       obtain rfl:=hw;go_simp;rfl
      simp only[Zag]
     refine Zf3 (R1:=fun u w'=>u=.bool z/\wr.drew=w') rfl (by kernel_rfl) rfl rfl (by go_simp) (HTR.out.mono fun x w' h=>⟨_,h.1,rfl,h.2⟩) (by rintro u w' ⟨_,rfl⟩;rfl) ?_;rintro u w'-⟨rfl,rfl⟩;simp only[Zag];refine Zdd rfl rfl (by kernel_rfl) ?_;apply Exists.intro;refine⟨fun w' hw=>?_,?_⟩
     ·
      go_simp;rfl
     simp only[Zag];refine Zjs (by kernel_rfl) ?_;clear d1 d2 HTR
     by_cases hyz:y=z
     ·
      subst hyz;have HS2:Hid (Zkj (l.take (k+1)) n i at_):=Hd (by have:=HST.out;simpa using this);have hl2:=HLT.out _ HS2.out;clear HST HTU d0;cases y with
      | true =>
        go_wp2_with fail;go_roundw
        case rel=>exact⟨k+1,at_,by omega,hl2,by go_num,by go_num,HO2,HB2,HS2⟩
        case measure=>simp[intOf];omega
      | false =>
        go_wp2_with fail;go_roundw
        case rel=>exact⟨k+1,at_,by omega,hl2,by go_num,by go_num,HO2,HB2,HS2⟩
        case measure=>simp[intOf];omega
     ·
      obtain rfl:z = !y:=by cases y<;>cases z<;>simp_all
      have HS2:Hid (Zkj (l.take (k+1)) n i (Zma at_ pv)):=Hd (by have:=HST.out;simpa using this);have hl2:=HLT.out _ HS2.out;obtain⟨a2,ha2⟩:∃ a2,a2=Zma at_ pv:=⟨_,rfl⟩;rw[<- ha2] at HTU HS2 hl2;clear HST hyz ha2;cases y with
      | true =>
        go_wp2_with fail;refine HTU.out.mono ?_;rintro x w' ⟨rfl,rfl⟩;go_wp2_with fail;go_roundw
        case rel=>exact⟨k+1,a2,by omega,hl2,by go_num,by go_num,HO2,HB2,HS2⟩
        case measure=>simp[intOf];omega
      | false =>
        go_wp2_with fail;refine HTU.out.mono ?_;rintro x w' ⟨rfl,rfl⟩;go_wp2_with fail;go_roundw
        case rel=>exact⟨k+1,a2,by omega,hl2,by go_num,by go_num,HO2,HB2,HS2⟩
        case measure=>simp[intOf];omega
    ·
     obtain rfl:k=l.length:=by omega
     have hkz:¬ (l.length:Int)<(l.length:Int):=by omega
     have HPE:Hid (Zkj l n i at_):=Hd (by have:=HPA.out;rwa [List.take_length] at this);have hax:at_<L:=by rw[HLL.out];exact HPE.out.1
     have haz:(at_:Int)<(L:Int):=by omega
     obtain⟨b1,of1,rfl,c2⟩:=(H1.out.below HBEL.out).cells at_ (by rw[Zbo,<- HLL.out];exact hax);obtain⟨y,hy⟩:∃ y,y=(tabB n F).getD at_ false:=⟨_,rfl⟩;rw[<- hy] at c2;have q0:=HOWN.out.cellB i (by have:=HTL.out;simp;omega);have p0:=HOWN.out.frozen i;have HY:Hid (T.getD i false=y):=Hd (by rw[hy];exact HVAL.out i at_ hlt HPE.out);clear hy HPA H1 H2;go_wp2_with fail;go_roundw
     case rel =>
      refine⟨i+1,by omega,by go_num,?_,HBEL.out.setCell hg1 _⟩;rw[<- Zeo (by have:=HTL.out;simp;omega) (show i<T.length by have:=HTL.out;omega) (by have:=HY.out;have h3:=HTL.out;simpa [List.getD,show i<T.length by omega] using this)];exact HOWN.out.setB i _
     case measure=>simp[intOf];omega
  ·
   obtain rfl:i=L:=by omega
   have hiz:¬ (i:Int)<(i:Int):=by omega
   have HF:=Hd (HEND.out g wr (by
    have hl2:=HTL.out;rw[List.take_of_length_le (by omega),List.drop_of_length_le (by simp),List.append_nil] at hown;exact hown) hbel)
   clear hown hbel;go_wp2_with fail;exact HF.out
open Go.RowKit
def pV:List (Value×Value)->List Value
 | []=>[]
 | p::r=>p.1::p.2::pV r
theorem Zpn (l:List (Value×Value)) (p:Value×Value):pV (l++[p])=pV l++[p.1,p.2]:=by
 induction l with
 | nil=>rfl
 | cons q r ih=>simp[pV,ih]
theorem Zze:∀ (l:List (Value×Value)) (k:Nat) (hk:k<l.length),(pV l)[k*2]?=some l[k].1/\(pV l)[k*2+1]?=some l[k].2
 | [],k,h=>by simp at h
 | p::t,0,_=>by simp[pV]
 | p::t,k+1,h=>by
   have:=Zze t k (by simpa using h);simp only[pV,List.getElem_cons_succ];have e1:(k+1)*2=k*2+1+1:=by omega
   rw[e1,List.getElem?_cons_succ,List.getElem?_cons_succ,List.getElem?_cons_succ,List.getElem?_cons_succ];exact this
structure Zw4 (T ST:TypeId) (z:Value) (b:Nat):Prop where
 under:Tryz.prog.underlying ST=some (.slice T)
 info:(Tryz.prog.info? T).map (fun i=>(i.zero,i.size,i.bytes))=some (some z,2,b)
 two:z.cells.size=2
 small:b<=100
def OwnP (T:TypeId) (w:World) (base:Nat) (v:Value) (l:List (Value×Value)):Prop:=w.ownsRow base T 2 v l.length (pV l)
section
variable {T ST:TypeId} {z:Value} {b:Nat} {w w':World} {base:Nat} {v:Value} {l:List (Value×Value)}
theorem OwnP.lt (h:OwnP T w base v l):∀ k,v.ownBlock=some k->base<=k/\k<w.heap.size:=World.ownsRow.lt h
theorem Zno (T:TypeId) (w:World) (base:Nat):OwnP T w base (.slice none 0 0) []:=World.ownsRow_nil w base T 2
theorem OwnP.same (h:OwnP T w base v l) (hk:∀ k,v.ownBlock=some k->w'.heap[k]?=w.heap[k]?):OwnP T w' base v l:=by
 refine⟨h.1,?_⟩;rcases h.2 with hn|⟨g,cap,cur,rfl,hb,hgg,rest⟩
 ·
  exact .inl hn
 ·
  refine .inr ⟨g,cap,cur,rfl,hb,?_,rest⟩;rw[hk g rfl];exact hgg
theorem OwnP.below (h:OwnP T w base v l) (hb:Below w.heap.size w w'):OwnP T w' base v l:=h.same fun k hk=>hb.block k (h.lt k hk).2
theorem OwnP.slice (h:OwnP T w base v l):∃ a cap,v=.slice a l.length cap/\(∀ k,∀ hk:k<l.length,∃ g,a=some ⟨g,0,none⟩/\w.cell? ⟨g,k*2,none⟩=some l[k].1/\w.cell? ⟨g,k*2+1,none⟩=some l[k].2):=by
 rcases h.2 with ⟨hv,h0⟩|⟨g,cap,cur,hv,hg,hh,_⟩
 ·
  exact⟨none,0,by rw[hv,h0],fun k hk=>by omega⟩
 ·
  refine⟨_,cap,hv,fun k hk=>⟨g,rfl,?_⟩⟩;subst hv;have h1:=World.ownsRow.cellAt h (k*2) (by omega);have h2:=World.ownsRow.cellAt h (k*2+1) (by omega);rw[h1,h2];exact Zze l k hk
theorem Zrp (w:World) (x y:Value) (t:TypeId):∀ j u,[x,y][j]?=some u->(w.alloc (.cells #[x,y] t)).cell? ((⟨w.heap.size,0,none⟩:Addr).add j)=some u:=by
 intro j u hj
 match j,hj with
 | 0,hj=>simp at hj;subst hj;simp[Addr.add]
 | 1,hj=>simp at hj;subst hj;simp[Addr.add]
 | j+2,hj=>simp at hj
theorem Ze2 (E:Zw4 T ST z b) (wr:World) {ops:Array Oper} {rest:List Oper} {o:Oper} {a:Act} {Q:Exit->Act->World->Prop} {W:World} (hgd:o.guard=none) (s x:Operand)
 (ho:o.op=.call { callee:=.builtin .append,args:=#[s,x],argTypes:=#[ST,ST] })
 (base:Nat) (w0:World) (v:Value) (l:List (Value×Value)) (y1 y2:Value) (hs:a.eval s=v) {N:Nat} (hx:a.eval x=.slice (some ⟨N,0,none⟩) 1 1)
 (hW:W=wr.alloc (.cells #[y1,y2] T)) (hN:N=wr.heap.size) (hy:y1.oneCell'=true/\y2.oneCell'=true)
 (hown:OwnP T wr base v l) (hlen:l.length<1099511627776) (hbase:base<=wr.heap.size) (hb:Below base w0 wr)
 (h:∀ v' w',OwnP T w' base v' (l++[(y1,y2)])->Below base w0 w'->base<=w'.heap.size->Zci v v' wr w'->wpList Tryz.prog ops Q rest (a.put o.dst v') w') :
 wpList Tryz.prog ops Q (o::rest) a W:=by
 obtain⟨i,hi,hz,hsz,hby⟩:=info_parts E.info;subst hN;subst hW
 have hsm:=E.small;refine wpList_append_own_at (w:=wr.alloc (.cells #[y1,y2] T)) hgd s x ST ho base T i z 2 b E.under hi hz hsz hby E.two (by decide)
  v l.length (pV l) hs (World.ownsRow.alloc hown _) ⟨wr.heap.size,0,none⟩ 1 1 [y1,y2] hx rfl (Zrp _ _ _ _) (by intro u hu;simp at hu;rcases hu with rfl|rfl;exact hy.1;exact hy.2) (by unfold maxLen;omega) (by
   have h1:(l.length+1)*b<=1099511627776*100:=Nat.mul_le_mul (by omega) hsm;omega) (by simp;omega) ?_
 intro v' w' h1 h2 _ hloc;refine h v' w' ?_ ?_ ?_ ⟨Zcp h2,hloc.imp id fun e=>⟨_,e,by simp⟩⟩
 ·
  unfold OwnP;rw[List.length_append,Zpn];exact h1
 ·
  exact(hb.alloc hbase _).grown h2 (by simp;omega) (fun k hk=>(hown.lt k hk).1)
 ·
  have:=h2.size;simp at this;omega
end
theorem Zic:Zw4 56 57 (.agg #[.int .i64 0,.slice none 0 0]) 32:=⟨Tryz.underlying57,by kernel_rfl,rfl,by omega⟩
theorem Zrs:Zw4 66 64 (.agg #[.int .i64 0,.int .i64 0]) 16:=⟨Tryz.underlying64,by kernel_rfl,rfl,by omega⟩
open Go.RowKit
def TabT (n:Nat) (W:World) (v:Value) (F:BF):Prop:=∃ ta tc,v=.slice ta (2^n) tc/\Zbt W ta (tabB n F)/\∀ a,ta=some a->∃ cur,W.heap[a.block]?=some (.cells cur 4 (0,0))
theorem Zbt.same {W W':World} {a:Option Addr} {bs:List Bool} (h:Zbt W a bs) (hk:∀ q,a=some q->W'.heap[q.block]?=W.heap[q.block]?):Zbt W' a bs :=
 ⟨h.len,fun k hk2=>by
  obtain⟨b,off,e,c⟩:=h.cells k hk2;exact⟨b,off,e,(World.cell?_of_block (w:=W) (a:=⟨b,off+k,none⟩) (hk ⟨b,off,none⟩ e)).trans c⟩⟩
theorem TabT.same {n:Nat} {W W':World} {v:Value} {F:BF} (h:TabT n W v F) (hk:∀ q:Nat,(∃ cur,W.heap[q]?=some (.cells cur 4 (0,0)))->W'.heap[q]?=W.heap[q]?):TabT n W' v F:=by
 obtain⟨ta,tc,e,h1,h2⟩:=h;refine⟨ta,tc,e,h1.same fun q hq=>hk _ (h2 q hq),fun a ha=>?_⟩;obtain⟨cur,hc⟩:=h2 a ha;exact⟨cur,(hk _ ⟨cur,hc⟩).trans hc⟩
theorem TabT.below {n:Nat} {W W':World} {v:Value} {F:BF} (h:TabT n W v F) (hb:Below W.heap.size W W'):TabT n W' v F :=
 h.same fun q ⟨_,hc⟩=>hb.block q (Array.getElem?_eq_some_iff.1 hc).1
theorem Zyr {n:Nat} {W:World} {base g:Nat} {F:BF} (h:OwnB W base (.slice (some ⟨g,0,none⟩) (2^n) (2^n)) (tabB n F)) (hn:n<=16):TabT n W (.slice (some ⟨g,0,none⟩) (2^n) (2^n)) F:=by
 refine⟨_,_,rfl,?_,fun a ha=>?_⟩
 ·
  obtain⟨a,c,e,h1,_⟩:=h.boolsIs (by rw[Zbo];exact tabs16 hn);injection e with e1 e2 e3
  rw[e1];exact h1
 ·
  injection ha with ha
  subst ha;rcases h.2 with ⟨hv,_⟩|⟨g2,cap,cur,hv,_,hg,_⟩
  ·
   cases hv
  ·
   injection hv with e1 e2 e3
   injection e1 with e1
   injection e1 with e1
   subst e1;exact⟨cur,hg⟩
structure Zgf (n:Nat) (W:World) (base:Nat) (v:Value) (l:List (Nat×BF)):Prop where
 ex:∃ ys:List (Value×Value),OwnP 56 W base v ys/\ys.length=l.length/\∀ k,∀ hk:k<l.length,∀ hy:k<ys.length,ys[k].1=.int .i64 (l[k].1:Nat)/\TabT n W ys[k].2 l[k].2
theorem Zv6 (n:Nat) (W:World) (base:Nat):Zgf n W base (.slice none 0 0) []:=⟨[],Zno _ _ _,rfl,fun k hk=>absurd hk (by simp)⟩
theorem Zgf.below {n:Nat} {W W':World} {base:Nat} {v:Value} {l:List (Nat×BF)} (h:Zgf n W base v l) (hb:Below W.heap.size W W'):Zgf n W' base v l:=by
 obtain⟨ys,h1,h2,h3⟩:=h.ex;exact⟨ys,h1.below hb,h2,fun k hk hy=>⟨(h3 k hk hy).1,(h3 k hk hy).2.below hb⟩⟩
theorem Zgf.places {n:Nat} {W:World} {base:Nat} {v:Value} {l:List (Nat×BF)} (h:Zgf n W base v l) (hl:l.length<=9223372036854775807):∃ a c,v=.slice a l.length c/\Zfv n W a l:=by
 obtain⟨ys,h1,h2,h3⟩:=h.ex;obtain⟨a,c,e,h4⟩:=h1.slice;refine⟨a,c,by rw[e,h2],hl,fun k hk=>?_⟩;have hy:k<ys.length:=by omega
 obtain⟨g,e1,c0,c1⟩:=h4 k hy;obtain⟨e2,ta,tc,e3,h5,_⟩:=h3 k hk hy;exact⟨g,0,ta,tc,e1,by rw[Nat.zero_add,c0,e2],by rw[Nat.zero_add,c1,e3],h5⟩
theorem Zgf.app {n:Nat} {W W':World} {base:Nat} {v v' y:Value} {l:List (Nat×BF)} {p:Nat×BF} {ys:List (Value×Value)} (h1:OwnP 56 W base v ys) (h2:ys.length=l.length)
 (h3:∀ k,∀ hk:k<l.length,∀ hy:k<ys.length,ys[k].1=.int .i64 (l[k].1:Nat)/\TabT n W ys[k].2 l[k].2) (ht:TabT n W y p.2) (hn:OwnP 56 W' base v' (ys++[(.int .i64 (p.1:Nat),y)])) (hk:Zci v v' W W'):Zgf n W' base v' (l++[p]):=by
 have hkeep:∀ q:Nat,(∃ cur,W.heap[q]?=some (.cells cur 4 (0,0)))->W'.heap[q]?=W.heap[q]?:=fun q ⟨cur,hc⟩=>hk.keep q (Array.getElem?_eq_some_iff.1 hc).1 (fun e=>by
  rcases h1.2 with ⟨hv,_⟩|⟨g,cap,cu,hv,_,hg,_⟩
  ·
   rw[hv] at e;cases e
  ·
   rw[hv] at e;have e2:q=g:=by simpa [Value.ownBlock] using e
   subst e2;rw[hc] at hg;injection hg with hg
   injection hg with _ hg
   exact absurd hg (by decide))
 refine⟨_,hn,by simp[h2],fun k hk2 hy=>?_⟩;rcases Nat.lt_or_ge k l.length with c|c
 ·
  have hy2:k<ys.length:=by omega
  rw[List.getElem_append_left hy2,List.getElem_append_left c];exact⟨(h3 k c hy2).1,(h3 k c hy2).2.same hkeep⟩
 ·
  have e:k=l.length:=by simp at hk2;omega
  subst e;rw[List.getElem_append_right (by omega),List.getElem_append_right (Nat.le_refl _)];simp only[h2,Nat.sub_self,List.getElem_cons_zero];exact⟨trivial,ht.same hkeep⟩
open Go.RowKit
def Zd3 (zs:List Int) (j:Nat):List (Nat×BF):=((List.range j).filter fun v:Nat=>decide ((v:Int)∈zs)).map fun v=>(v,notF (varF v))
theorem Zmj (zs:List Int) (j:Nat):Zd3 zs (j+1)=Zd3 zs j++if (j:Int)∈zs then [(j,notF (varF j))] else []:=by
 unfold Zd3;rw[List.range_succ,List.filter_append,List.map_append]
 by_cases h:(j:Int)∈zs
 ·
  rw[if_pos h];simp[h]
 ·
  rw[if_neg h];simp[h]
theorem Zif (zs:List Int) (j:Nat):(Zd3 zs j).map (·.1)=(List.range j).filter fun v:Nat=>decide ((v:Int)∈zs):=by
 unfold Zd3;rw[List.map_map];exact List.map_id'' (fun _=>rfl) _
theorem Zqw (zs:List Int) (j:Nat):((Zd3 zs j).map (·.1)).Nodup:=by
 rw[Zif];exact List.Nodup.sublist List.filter_sublist List.nodup_range
theorem Zxk {zs:List Int} {j:Nat} {p:Nat×BF} (h:p∈Zd3 zs j):p.1<j:=by
 have:p.1∈(Zd3 zs j).map (·.1):=List.mem_map.2 ⟨p,h,rfl⟩;rw[Zif] at this;exact List.mem_range.1 (List.mem_filter.1 this).1
theorem Zoz (zs:List Int) (j:Nat):(Zd3 zs j).length<=j:=by
 unfold Zd3;rw[List.length_map];exact Nat.le_trans (List.length_filter_le _ _) (by simp)
theorem Zu2 {zs:List Int} {n:Nat} (h:∀ v∈zs,0<=v/\v<(n:Int)):sigP (Zd3 zs n)=sigF zs:=by
 funext u;unfold sigP sigF
 by_cases hu:(u:Int)∈zs
 ·
  rw[if_pos hu];have hn:=(h _ hu).2;have e:Zhk (Zd3 zs n) u=some (notF (varF u)):=by
   unfold Zhk;cases e:(Zd3 zs n).find? (fun p=>p.1 == u) with
   | none =>
     have hm:u∈(Zd3 zs n).map (·.1):=by
      rw[Zif];exact List.mem_filter.2 ⟨List.mem_range.2 (by omega),by simpa using hu⟩
     obtain⟨p,hp,e2⟩:=List.mem_map.1 hm;have:=List.find?_eq_none.1 e p hp;simp[e2] at this
   | some p =>
     have h1:=List.find?_some e;have h2:=List.mem_of_find?_eq_some e;simp only[beq_iff_eq] at h1;unfold Zd3 at h2;obtain⟨v,_,rfl⟩:=List.mem_map.1 h2;have h1:v=u:=h1;subst h1;rfl
  rw[e]
 ·
  rw[if_neg hu,Zhz (by
   rw[Zif];intro hm;exact hu (by simpa using(List.mem_filter.1 hm).2))]
theorem Zk7 (n:Nat) (hn:n<=16) (F:BF) (au:Option Addr) (cu:Nat) (a:Option Addr) (c:Nat) (zs:List Int) (w:World) (h1:Zbt w au (tabB n F)) (h2:Zay w a zs) (hzl:zs.length<9223372036854775807) (hall:∀ v∈zs,0<=v/\v<(n:Int)) :
 Calls Tryz.prog 41 #[.slice au (2^n) cu,.slice a zs.length c,.int .i64 n] w (RefT n (Zbd (sigF zs) F) w):=by
 have hz9:(zs.length:Int)<9223372036854775807:=by omega
 obtain⟨L,hL⟩:∃ L,L=2^n:=⟨_,rfl⟩;have H1:=Hd h1;have H2:=Hd h2;have HV:Hid (∀ W (v:Nat),v<n->Calls Tryz.prog 40 #[.int .i64 v,.int .i64 n] W fun x w'=>∃ g,x=.returned (.slice (some ⟨g,0,none⟩) L L)/\Zbt w' (some ⟨g,0,none⟩) (tabB n (varF v))/\Below W.heap.size W w'):=Hd fun W v hv=>by
  rw[hL];refine(Zmx v n hv hn W).mono ?_;rintro x w' ⟨g,rfl,h3,h4⟩;exact⟨g,rfl,Zsn (h3.boolsIs (by rw[Zbo];exact tabs16 hn)),h4⟩
 have HN:Hid (∀ W g G,Zbt W (some ⟨g,0,none⟩) (tabB n G)->Calls Tryz.prog 109 #[.slice (some ⟨g,0,none⟩) L L] W fun x w'=>∃ g2,x=.returned (.slice (some ⟨g2,0,none⟩) L L)/\TabT n w' (.slice (some ⟨g2,0,none⟩) L L) (notF G)/\Below W.heap.size W w'):=Hd fun W g G hb=>by
  rw[hL];have:=Ztn (tabB n G) _ (2^n) W hb;rw[Zbo] at this;refine this.mono ?_;rintro x w' ⟨g2,rfl,h3,h4⟩;rw[Ybq] at h3;exact⟨g2,rfl,Zyr h3 hn,h4⟩
 have HPUT:Hid (∀ W s,Zgf n W w.heap.size s (Zd3 zs n)->Below w.heap.size w W->Calls Tryz.prog 32 #[.slice au L cu,s] W fun x w'=>∃ v,x=.returned v/\RefT n (Zbd (sigF zs) F) w (.returned v) w'):=Hd fun W s hp hb=>by
  have hlen:=Zoz zs n;obtain⟨pa,pc,rfl,hp2⟩:=hp.places (by omega);rw[hL];refine(Zg8 n hn F au cu pa pc (Zd3 zs n) W (h1.below hb) hp2 (Zqw zs n) (fun p hp=>Zxk hp)).mono ?_;rintro x w' ⟨v,rfl,h3,h4⟩;rw[Zu2 hall] at h3;exact⟨v,rfl,v,rfl,h3,hb.trans (h4.mono hb.size)⟩
 obtain⟨P,hP⟩:∃ P,P=RefT n (Zbd (sigF zs) F) w:=⟨_,rfl⟩;rw[<- hP] at HPUT ⊢;rw[<- hL];have HP0:Hid (Zgf n w w.heap.size (.slice none 0 0) (Zd3 zs 0)):=Hd (Zv6 n w w.heap.size);have HB0:Hid (Below w.heap.size w w):=Hd (Below.refl _ _);clear hP hL h1 h2 hall
 go_enter Tryz.func41,Tryz.ntmps41
 go_wp2_with fail
 go_loopw [7,8,9] (fun s7 s8 _ wr=>∃ j:Nat,j<=n/\s8=.int .i64 j/\Hid (Zgf n wr w.heap.size s7 (Zd3 zs j))/\Hid (Below w.heap.size w wr)) (fun _ s8 _ _=>n-(intOf s8).toNat)
 case atStart=>exact⟨0,by omega,rfl,HP0,HB0⟩
 case round =>
  clear HP0 HB0;obtain⟨j,hj,rfl,HPR,HBR⟩:=hrel
  by_cases hlt:j<n
  ·
   have hjz:(j:Int)<(n:Int):=by omega
   go_wp2_with fail
   go_loopw [7,9] (fun s7 s9 wr=>∃ i:Nat,i<=zs.length+1/\s9=.int .i64 i/\Hid (Zgf n wr w.heap.size s7 (if i=zs.length+1 then Zd3 zs (j+1) else Zd3 zs j))/\Hid (Below w.heap.size w wr)/\Hid (i<=zs.length->∀ q,q<i->at0 zs q≠(j:Int))) (fun _ s9 _=>zs.length+1-(intOf s9).toNat)
   case atStart=>exact⟨0,by omega,rfl,Hd (by rw[if_neg (by omega)];exact HPR.out),HBR,Hd fun _ q hq=>by omega⟩
   case round =>
    clear HPR HBR;obtain⟨i,hi,rfl,HPR,HBR,HNO⟩:=hrel
    by_cases hlti:i<zs.length
    ·
     have hiz:(i:Int)<(zs.length:Int):=by omega
     obtain⟨b,off,rfl,ck⟩:=(H2.out.below HBR.out).cells i hlti;obtain⟨z,hz⟩:∃ z,z=at0 zs i:=⟨_,rfl⟩;rw[<- hz] at ck
     by_cases he:z=(j:Int)
     ·
      have HIN:Hid ((j:Int)∈zs):=Hd (by rw[<- he,hz,Zbq hlti];exact List.getElem_mem hlti);subst he;have HPJ:Hid (Zgf n wr w.heap.size u7 (Zd3 zs j)):=Hd (by have:=HPR.out;rwa [if_neg (by omega)] at this);have HV2:=Hd (HV.out wr j hlt);clear hz HPR HNO;go_wp2_with fail;refine HV2.out.mono ?_;rintro x w2 ⟨g,rfl,hg,hb2⟩;have HN2:=Hd (HN.out w2 g _ hg);have HB2:=Hd hb2;clear hg hb2 HV2;go_wp2_with fail;refine HN2.out.mono ?_;rintro x w3 ⟨g2,rfl,ht,hb3⟩;have hb3':Below wr.heap.size wr w3:=HB2.out.trans (hb3.mono HB2.out.size);obtain⟨ys,y1,y2,y3⟩:=(HPJ.out.below hb3').ex;have HY1:=Hd y1;have HY3:=Hd y3;have HTT:=Hd ht;have HB3:Hid (Below w.heap.size w w3):=Hd (HBR.out.trans (hb3'.mono HBR.out.size));have hyl:ys.length<1099511627776:=by have:=Zoz zs j;omega
      have HY2:=Hd y2;clear y1 y2 y3 ht hb3 hb3' HN2 HB2 HPJ HBR;go_wp2_with (refine Ze2 Zic w3 rfl _ _ rfl w.heap.size w u7 ys (.int .i64 (j:Nat)) (.slice (some ⟨g2,0,none⟩) L L) rfl rfl rfl rfl ⟨rfl,rfl⟩ HY1.out hyl HB3.out.size HB3.out ?_;intro v' w4 hown hb4 hs4 hk4)
      have HR:Hid (Zgf n w4 w.heap.size v' (if zs.length+1=zs.length+1 then Zd3 zs (j+1) else Zd3 zs j)):=Hd (by
       rw[if_pos rfl,Zmj,if_pos HIN.out];exact Zgf.app (p:=(j,notF (varF j))) HY1.out HY2.out HY3.out HTT.out hown hk4)
      have HB4:=Hd hb4;clear hown hb4 hs4 hk4 HY1 HY2 HY3 HTT HB3 HIN;go_wp2_with fail;go_roundw
      case rel=>exact⟨zs.length+1,by omega,by go_num,HR,HB4,Hd fun h=>by omega⟩
      case measure=>simp[intOf];omega
     ·
      have heb:(z == (j:Int))=false:=by simpa using he
      have HPJ:Hid (Zgf n wr w.heap.size u7 (if i+1=zs.length+1 then Zd3 zs (j+1) else Zd3 zs j)):=Hd (by
       have h:=HPR.out;rw[if_neg (by omega)] at h
       by_cases c:i+1=zs.length+1
       ·
        omega
       ·
        rwa [if_neg c])
      have HNO2:Hid (i+1<=zs.length->∀ q,q<i+1->at0 zs q≠(j:Int)):=Hd fun _ q hq=>by
       rcases Nat.lt_or_ge q i with c|c
       ·
        exact HNO.out (by omega) q c
       ·
        obtain rfl:q=i:=by omega
        rw[<- hz];exact he
      clear hz HPR HNO he;go_wp2_with fail;go_roundw
      case rel=>exact⟨i+1,by omega,by go_num,HPJ,HBR,HNO2⟩
      case measure=>simp[intOf];omega
    ·
     have hiz:¬ (i:Int)<(zs.length:Int):=by omega
     have HPJ:Hid (Zgf n wr w.heap.size u7 (Zd3 zs (j+1))):=Hd (by
      have h:=HPR.out
      by_cases c:i=zs.length+1
      ·
       rwa [if_pos c] at h
      ·
       rw[if_neg c] at h
       rw[Zmj,if_neg (fun hin=>by
        obtain⟨q,hq,e⟩:=List.getElem_of_mem hin;refine HNO.out (by omega) q (by omega) ?_;rw[Zbq hq];exact e),List.append_nil]
       exact h)
     clear HPR HNO;go_wp2_with fail;go_roundw
     case rel=>exact⟨j+1,by omega,by go_num,HPJ,HBR⟩
     case measure=>simp[intOf];omega
  ·
   obtain rfl:j=n:=by omega
   have hjz:¬ (j:Int)<(j:Int):=by omega
   have HQ:=Hd (HPUT.out _ _ HPR.out HBR.out);clear HPR HPUT;go_wp2_with fail;refine HQ.out.mono ?_;rintro x w' ⟨v,rfl,hp⟩;have HF:=Hd hp;clear hp;go_wp2_with fail;exact HF.out
open Go.RowKit
theorem Zyk (v:Nat) (G:BF):sigP [(v,G)]=sigC v G:=by
 funext u;unfold sigP sigC Zhk
 by_cases e:u=v
 ·
  subst e;simp
 ·
  have:(v == u)=false:=by simpa using fun h=>e h.symm
  simp[List.find?,this,e]
theorem Zth {n v N:Nat} {G:BF} {W W':World} {ta:Option Addr} {tc:Nat} (h:Zbt W ta (tabB n G)) (hN:N=W.heap.size) (hW:W'=W.alloc (.cells #[.int .i64 v,.slice ta (2^n) tc] 56)):Zfv n W' (some ⟨N,0,none⟩) [(v,G)]:=by
 subst hN;subst hW
 have hblk:=heap_alloc_new W (.cells #[.int .i64 v,.slice ta (2^n) tc] 56);refine⟨by simp,fun k hk=>?_⟩;obtain rfl:k=0:=by simpa using hk
 exact⟨_,0,ta,tc,rfl,by rw[cell_of_row _ _ 0 _ _ _ hblk];rfl,by rw[cell_of_row _ _ 1 _ _ _ hblk];rfl,h.below (Zac _ _)⟩
theorem Zip {n c:Nat} (hc:c<=100):c*2^n+(2^n-1)*(2^n+1)<=Zcd n:=by
 have h1:1<=2^n:=Nat.one_le_two_pow;have h2:2^(2*n)=2^n*2^n:=by rw[Nat.two_mul,Nat.pow_add]
 unfold Zcd
 first
  | (rw [h2]
     generalize 2^n=X at h1
     obtain⟨Y,rfl⟩:∃ Y,X=Y+1:=⟨X-1,by omega⟩;have h3:c*(Y+1)<=100*(Y+1):=Nat.mul_le_mul_right _ hc;simp only[Nat.add_sub_cancel,Nat.mul_add,Nat.add_mul] at h3 ⊢;omega)
  | (generalize 2 ^ n = X at h1
     obtain⟨Y,rfl⟩:∃ Y,X=Y+1:=⟨X-1,by omega⟩;have h3:c*(Y+1)<=100*(Y+1):=Nat.mul_le_mul_right _ hc;simp only[Nat.add_sub_cancel,Nat.mul_add,Nat.add_mul] at h3 ⊢;omega)
open Go.RowKit
theorem Zw6 (p:Prop):∃ b:Bool,b=true↔p:=by
 classical
 exact⟨decide p,by simp⟩
theorem SatE.dep {K:Law} {n:Nat} {Od:List Nat->Prop} {room:Nat} {w0 w:World} {mb:Nat} {fs:List (Int×BF)} {nx:Int} {o:Own} {m:ManD} {V:Nat->BF} (h:SatE K n Od room w0 mb fs nx w o m V) {k:Int} {F:BF} (hk:(k,F)∈fs):DepF n F:=by
 obtain⟨f,hf,rfl⟩:=h.find hk;have:=h.ok.store.dep (h.ok.handles.ok _ hf)
 rwa [h.vars] at this
open Go.RowKit
section
variable {P:Program} {ops:Array Oper} {S:World->Prop} {Q:Exit->Act->World->Prop} {last:Bool}
end
section
variable {K:Law} {n:Nat} {Od:List Nat->Prop} {room:Nat} {w0:World} {mb:Nat} {fs hs hl hx:List (Int×BF)} {nx:Int} {Wt:List Ev->Int->Prop} {W w w':World} {o o':Own} {m m':ManD} {V V':Nat->BF} {vl vx:Value}
end
open Go.RowKit
def StF (K:Law) (n room:Nat) (w0:World) (mb:Nat) (fs:List (Int×BF)) (nx:Int) (ws0:List Ev) (rs:List (Value×BF)) (W:World):Prop:=∃ o m V,m.waits <:+ ws0/\SatE K n (fun _=>True) room w0 mb fs nx W o m V/\∀ p∈rs,LawF W o p.1 (tabB n p.2)
section
variable {K:Law} {n room:Nat} {w0 w W w':World} {mb:Nat} {fs fs':List (Int×BF)} {nx nx':Int} {o:Own} {m:ManD} {V:Nat->BF} {ws0:List Ev} {rs:List (Value×BF)} {f:Nat} {args:Array Value}
theorem StF.below (h:StF K n room w0 mb fs nx ws0 rs w) (hb:Below w.heap.size w w'):StF K n room w0 mb fs nx ws0 rs w':=by
 obtain⟨o,m,V,h1,h2,h3⟩:=h;exact⟨o,m,V,h1,h2.below hb,fun p hp=>(h3 p hp).chg (Zcj hb o)⟩
theorem StF.below0 (h:StF K n room w0 mb fs nx ws0 rs w):Below w0.heap.size w0 w:=by
 obtain⟨o,m,V,h1,h2,_⟩:=h;exact h2.chg.below0
theorem StF.go {R:Ending->Prop} (h:StF K n room w0 mb fs nx ws0 rs w) (hc:∀ o m V,m.waits <:+ ws0->SatE K n (fun _=>True) room w0 mb fs nx w o m V->Calls Tryz.prog f args w fun x w'=>R x/\Goes K n (fun _=>True) room w0 mb fs' nx' (W2 (SufW ws0)) o w w') :
 Calls Tryz.prog f args w fun x w'=>R x/\StF K n room w0 mb fs' nx' ws0 rs w':=by
 obtain⟨o,m,V,h1,h2,h3⟩:=h;refine(hc o m V h1 h2).mono ?_;rintro x w' ⟨q1,o',m',V',q2,q3,q4⟩;exact⟨q1,o',m',V',q3,q4,fun p hp=>(h3 p hp).chg q2⟩
theorem StF.ask {R:Ending->World->Prop} (h:StF K n room w0 mb fs nx ws0 rs w) (hc:∀ o m V,SatE K n (fun _=>True) room w0 mb fs nx w o m V->Calls Tryz.prog f args w R):Calls Tryz.prog f args w R:=by
 obtain⟨o,m,V,_,h2,_⟩:=h;exact hc o m V h2
theorem StF.tab (h:StF K n room w0 mb fs nx ws0 rs w) {r:Value} {F:BF} (hp:(r,F)∈rs):TabA n w r F:=by
 obtain⟨o,m,V,_,_,h3⟩:=h;exact(h3 _ hp).tab
theorem StF.dep (h:StF K n room w0 mb fs nx ws0 rs w) {k:Int} {F:BF} (hk:(k,F)∈fs):DepF n F:=by
 obtain⟨o,m,V,_,h2,_⟩:=h;exact h2.dep hk
theorem StF.of (hw:m.waits <:+ ws0) (h:SatE K n (fun _=>True) room w0 mb fs nx w o m V) (hr:∀ p∈rs,LawF w o p.1 (tabB n p.2)):StF K n room w0 mb fs nx ws0 rs w:=⟨o,m,V,hw,h,hr⟩
theorem Zwl (h:StF K n room w0 mb fs nx ws0 rs w) {k l:Int} {F G:BF} {b:Bool} (hf:(k,F)∈fs) (hg:(l,G)∈fs) (hb:b=true↔F=G):Calls Tryz.prog 22 #[.pointer (some ⟨mb,0,none⟩),.int .i64 k,.int .i64 l] w fun x w'=>x=.returned (.tuple #[.bool b,.int .i64 0])/\w=w' :=
 h.ask fun o m V hs=>(Zk2 hs hf hg).mono fun x w' ⟨b',q1,q2,q3⟩=>by
  obtain rfl:b'=b:=Bool.eq_iff_iff.2 (q2.trans hb.symm);exact⟨q1,q3⟩
end
open Go.RowKit
theorem Zu3 (v:Int) (F:BF):Zbd (sigF [v,v]) (Zbd (sigF [v]) F)=F:=by
 funext ρ
 show F (fun u=>sigF [v] u fun u'=>sigF [v,v] u' ρ)=F ρ
 congr 1;funext u;unfold sigF
 by_cases h:(u:Int)=v
 ·
  simp[h,notF,varF]
 ·
  simp[h,varF]
theorem Zm9 {n v:Nat} {F G:BF} (hd:DepF n F) (hh:Zo4 n F v=false):Zbd (sigC v G) F=F:=by
 have he:tabB n (cofF F v false)=tabB n (cofF F v true):=by
  unfold Zo4 at hh;simpa using hh
 have hdc:∀ b,DepF n (cofF F v b):=fun b ρ ρ' h=>by
  unfold cofF;refine hd _ _ fun i hi=>?_
  by_cases e:i=v
  ·
   simp[e]
  ·
   simp[e,h i hi]
 have h2:=Ya1 (hdc false) (hdc true) he;have h3:∀ b c ρ,cofF F v b ρ=cofF F v c ρ:=fun b c ρ=>by
  have:=congrFun h2 ρ;cases b<;>cases c<;>simp_all
 funext ρ;have e1:Zbd (sigC v G) F ρ=cofF F v (G ρ) ρ:=by
  unfold Zbd cofF sigC;congr 1;funext u
  by_cases e:u=v
  ·
   simp[e]
  ·
   simp[e,varF]
 have e2:F ρ=cofF F v (ρ v) ρ:=by
  unfold cofF;congr 1;funext u
  by_cases e:u=v
  ·
   simp[e]
  ·
   simp[e]
 rw[e1,e2];exact h3 _ _ _
theorem Zub (w:World) (v:Value):Calls Tryz.prog 92 #[.pointer none,v] w fun x w'=>x=.returned (.int .i64 5)/\w=w':=by
 go_enter Tryz.func92,Tryz.ntmps92
 go_wp2_with fail;go_ret;exact⟨rfl,rfl⟩
theorem Zlg (w:World) (kf:Int) (v:Value) :
 Calls Tryz.prog 34 #[.pointer none,.int .i64 kf,v] w fun x w'=>x=.returned (.tuple #[.int .i64 0,.int .i64 5])/\Below w.heap.size w w':=by
 obtain⟨w1,hw1⟩:∃ w1,w1=w.alloc (.cells #[.int .i64 kf] 3):=⟨_,rfl⟩;have HW1:Hid (_=w1):=Hd hw1.symm;have hb:Below w.heap.size w w1:=by rw[hw1];exact Zac _ _
 have HASK:=Hd (Zub w1 (.slice (some ⟨w.heap.size,0,none⟩) 1 1));have HB:=Hd hb;clear hw1 hb
 go_enter Tryz.func34,Tryz.ntmps34
 go_wp2_with fail;rw[HW1.out];refine HASK.out.mono ?_;rintro x w' ⟨rfl,rfl⟩;go_wp2_with fail
 go_ret2
 exact⟨rfl,HB.out⟩
section
variable {K:Law} {n room:Nat} {w0 w:World} {mb:Nat} {fs:List (Int×BF)} {nx:Int} {ws0:List Ev} {rs:List (Value×BF)}
theorem StF.flip (hK:Zb3 K) (h:StF K n room w0 mb fs nx ws0 rs w) {kf:Int} {F:BF} (hf:(kf,F)∈fs) {zs:List Int} (hl:zs.length<=1000) (hall:∀ v∈zs,0<=v/\v<(n:Int)) (hn:nx<=549755813888) (hr:fs.length*2^n+(2^n-1)*(2^n+1)<=room) {T:World} (hT:T=w.alloc (.cells (Zba zs).toArray 3)) :
 Calls Tryz.prog 34 #[.pointer (some ⟨mb,0,none⟩),.int .i64 kf,.slice (some ⟨w.heap.size,0,none⟩) zs.length zs.length] T fun x w'=>x=.returned (.tuple #[.int .i64 nx,.int .i64 0])/\StF K n room w0 mb (fs++[(nx,Zbd (sigF zs) F)]) (nx+1) ws0 rs w':=by
 subst hT;have hb:=Zac w (.cells (Zba zs).toArray 3);refine(h.below hb).go fun o m V hw hs=>(Zh2 hK hs hf (Zcs w zs (by omega)) hw hn hr).mono fun x w' hx=>?_
 exact hx.1 hall
theorem StF.flip_ok (hK:Zb3 K) (h:StF K n room w0 mb fs nx ws0 rs w) {kf:Int} {F:BF} (hf:(kf,F)∈fs) {a:Option Addr} {c:Nat} {zs:List Int} (hz:Zay w a zs) (hall:∀ v∈zs,0<=v/\v<(n:Int)) (hn:nx<=549755813888) (hr:fs.length*2^n+(2^n-1)*(2^n+1)<=room) :
 Calls Tryz.prog 34 #[.pointer (some ⟨mb,0,none⟩),.int .i64 kf,.slice a zs.length c] w fun x w'=>x=.returned (.tuple #[.int .i64 nx,.int .i64 0])/\StF K n room w0 mb (fs++[(nx,Zbd (sigF zs) F)]) (nx+1) ws0 rs w' :=
 h.go fun o m V hw hs=>(Zh2 hK hs hf hz hw hn hr).mono fun x w' hx=>hx.1 hall
theorem StF.flip_no (hK:Zb3 K) (h:StF K n room w0 mb fs nx ws0 rs w) {kf:Int} {F:BF} (hf:(kf,F)∈fs) {a:Option Addr} {c:Nat} {zs:List Int} (hz:Zay w a zs) (hno:∃ v∈zs,¬ (0<=v/\v<(n:Int))) (hn:nx<=549755813888) (hr:fs.length*2^n+(2^n-1)*(2^n+1)<=room) :
 Calls Tryz.prog 34 #[.pointer (some ⟨mb,0,none⟩),.int .i64 kf,.slice a zs.length c] w fun x w'=>x=.returned (.tuple #[.int .i64 0,.int .i64 9])/\Below w.heap.size w w':=by
 obtain⟨o,m,V,h1,h2,_⟩:=h;exact(Zh2 hK h2 hf hz h1 hn hr).mono fun x w' hx=>hx.2 hno
theorem StF.compose (hK:Zb3 K) (h:StF K n room w0 mb fs nx ws0 rs w) {kf kg:Int} {F G:BF} (hf:(kf,F)∈fs) (hg:(kg,G)∈fs) (v:Nat) (hv:v<n) (hn:nx<=549755813888) (hr:fs.length*2^n+(2^n-1)*(2^n+1)<=room) :
 Calls Tryz.prog 29 #[.pointer (some ⟨mb,0,none⟩),.int .i64 kf,.int .i64 v,.int .i64 kg] w fun x w'=>x=.returned (.tuple #[.int .i64 nx,.int .i64 0])/\StF K n room w0 mb (fs++[(nx,Zbd (sigC v G) F)]) (nx+1) ws0 rs w' :=
 h.go fun o m V hw hs=>Zht hK hs hf hg v hv hw hn hr
theorem StF.left (h:StF K n room w0 mb fs nx ws0 rs w) (q:Nat) (hq:q<=1000000) (hl:fs.length=q+2):Calls Tryz.prog 30 #[.pointer (some ⟨mb,0,none⟩),.int .i64 q] w fun x w'=>x=.returned (.bool true)/\w=w' :=
 h.ask fun o m V hs=>(Zih hs q hq).mono fun e w' ⟨h1,h2⟩=>⟨by rw[h1,decide_eq_true hl],h2⟩
end
end Go.Proofs.YtmofaapnkidioaaGreat
