/- Several texts in one file: contracts of the program's functions and what follows from them. -/
import Derived.Test.YtmofaapnkidioaaGreatQ7
import Derived.Deep.Slices
import Derived.ChangeArms
import Derived.WideShapes
set_option linter.unusedSimpArgs false
set_option linter.unusedVariables false
set_option linter.unusedSectionVars false
set_option linter.unnecessarySimpa false
set_option maxRecDepth 100000
set_option maxHeartbeats 8000000
namespace Go.Proofs.YtmofaapnkidioaaGreat
open Go.RowKit
section
variable {T:TypeId} {n:Nat} {w w' W W':World} {o o':Own} {base:Nat} {v v' y:Value} {bs:List Bool}
theorem OwnP.chg {l:List (Value×Value)} (h:OwnP T W base v l) (hc:ChgX NoB o o' W W') (hno:∀ k,base<=k->k<W.heap.size->o k=none):OwnP T W' base v l :=
 h.same fun k hk=>hc.block k (h.lt k hk).2 (hno k (h.lt k hk).1 (h.lt k hk).2) (fun e=>e)
theorem LawF.same (h:LawF W o v bs) (hk:∀ q:Nat,(∃ cur,W.heap[q]?=some (.cells cur 4 (0,0)))->W'.heap[q]?=W.heap[q]?):LawF W' o v bs :=
 ⟨h.is.same fun k hv=>hk k (h.no k hv).2.2,fun k hv=>by
  obtain⟨h1,h2,cur,h3⟩:=h.no k hv;have e:=(hk k ⟨cur,h3⟩).trans h3;exact⟨(Array.getElem?_eq_some_iff.1 e).1,h2,cur,e⟩⟩
theorem LawF.below' (h:LawF W o v bs) (hb:Below W.heap.size W W'):LawF W' o v bs:=h.chg (Zcj hb o)
theorem Zxv {n g:Nat} {F:BF} (h:OwnB W base (.slice (some ⟨g,0,none⟩) (2^n) (2^n)) (tabB n F)) (hn:n<=16) (hno:∀ k,base<=k->o k=none):LawF W o (.slice (some ⟨g,0,none⟩) (2^n) (2^n)) (tabB n F):=by
 refine⟨h.boolsIs (by rw[Zbo];exact tabs16 hn),fun k hk=>?_⟩;rcases h.2 with ⟨hv,_⟩|⟨g2,cap,cur,hv,hb,hg,_⟩
 ·
  cases hv
 ·
  rw[hv] at hk;have e2:k=g2:=by simpa [Value.ownBlock] using hk.symm
  subst e2;exact⟨(Array.getElem?_eq_some_iff.1 hg).1,hno _ hb,cur,hg⟩
structure PlF (n:Nat) (W:World) (o:Own) (base:Nat) (v:Value) (l:List (Int×BF)):Prop where
 ex:∃ ys:List (Value×Value),OwnP 56 W base v ys/\ys.length=l.length/\∀ k,∀ hk:k<l.length,∀ hy:k<ys.length,ys[k].1=.int .i64 l[k].1/\LawF W o ys[k].2 (tabB n l[k].2)
theorem Zv5 (n:Nat) (W:World) (o:Own) (base:Nat):PlF n W o base (.slice none 0 0) []:=⟨[],Zno _ _ _,rfl,fun k hk=>absurd hk (by simp)⟩
variable {l:List (Int×BF)} {p:Int×BF} {ys:List (Value×Value)}
theorem PlF.below (h:PlF n W o base v l) (hb:Below W.heap.size W W'):PlF n W' o base v l:=by
 obtain⟨ys,h1,h2,h3⟩:=h.ex;exact⟨ys,h1.below hb,h2,fun k hk hy=>⟨(h3 k hk hy).1,(h3 k hk hy).2.below' hb⟩⟩
theorem PlF.chg (h:PlF n W o base v l) (hc:ChgX NoB o o' W W') (hno:∀ k,base<=k->k<W.heap.size->o k=none):PlF n W' o' base v l:=by
 obtain⟨ys,h1,h2,h3⟩:=h.ex;exact⟨ys,h1.chg hc hno,h2,fun k hk hy=>⟨(h3 k hk hy).1,(h3 k hk hy).2.chg hc⟩⟩
theorem Zh6 {T2 T3:TypeId} {v2 v3:Value} {l2:List (Value×Value)} (h2:OwnP T2 W base v2 l2) (hT:(T2 == T3)=false) (hk:Zci v2 v3 W W') (q:Nat) (hq:∃ cur,W.heap[q]?=some (.cells cur T3 (0,0))):W'.heap[q]?=W.heap[q]?:=by
 obtain⟨cur,hc⟩:=hq;refine hk.keep q (Array.getElem?_eq_some_iff.1 hc).1 (fun e=>?_);rcases h2.2 with ⟨hv,_⟩|⟨g,cap,cu,hv,_,hg,_⟩
 ·
  rw[hv] at e;cases e
 ·
  rw[hv] at e;have e2:q=g:=by simpa [Value.ownBlock] using e
  subst e2;rw[hc] at hg;injection hg with hg
  injection hg with _ hg
  subst hg;simp at hT
theorem OwnP.other {T2:TypeId} {v2 v3:Value} {l l2:List (Value×Value)} (h:OwnP T W base v l) (h2:OwnP T2 W base v2 l2) (hT:(T2 == T)=false) (hk:Zci v2 v3 W W'):OwnP T W' base v l :=
 h.same fun k hkk=>by
  rcases h.2 with ⟨hv,_⟩|⟨g,cap,cu,hv,_,hg,_⟩
  ·
   rw[hv] at hkk;cases hkk
  ·
   rw[hv] at hkk;have e2:k=g:=by simpa [Value.ownBlock] using hkk.symm
   subst e2;exact Zh6 h2 hT hk _ ⟨cu,hg⟩
theorem PlF.other {T2:TypeId} {v2 v3:Value} {l2:List (Value×Value)} (h:PlF n W o base v l) (h2:OwnP T2 W base v2 l2) (hT:(T2 == 4)=false) (hT2:(T2 == 56)=false) (hk:Zci v2 v3 W W'):PlF n W' o base v l:=by
 obtain⟨ys,h3,h4,h5⟩:=h.ex;exact⟨ys,h3.other h2 hT2 hk,h4,fun k hk2 hy=>⟨(h5 k hk2 hy).1,(h5 k hk2 hy).2.same (Zh6 h2 hT hk)⟩⟩
theorem PlF.app (h1:OwnP 56 W base v ys) (h2:ys.length=l.length)
 (h3:∀ k,∀ hk:k<l.length,∀ hy:k<ys.length,ys[k].1=.int .i64 l[k].1/\LawF W o ys[k].2 (tabB n l[k].2)) (ht:LawF W o y (tabB n p.2)) (hn:OwnP 56 W' base v' (ys++[(.int .i64 p.1,y)])) (hk:Zci v v' W W'):PlF n W' o base v' (l++[p]):=by
 have hkeep:=fun q hq=>Zh6 (T3:=4) h1 (by decide) hk q hq
 refine⟨_,hn,by simp[h2],fun k hk2 hy=>?_⟩;rcases Nat.lt_or_ge k l.length with c|c
 ·
  have hy2:k<ys.length:=by omega
  rw[List.getElem_append_left hy2,List.getElem_append_left c];exact⟨(h3 k c hy2).1,(h3 k c hy2).2.same hkeep⟩
 ·
  have e:k=l.length:=by simp at hk2;omega
  subst e;rw[List.getElem_append_right (by omega),List.getElem_append_right (Nat.le_refl _)];simp only[h2,Nat.sub_self,List.getElem_cons_zero];exact⟨trivial,ht.same hkeep⟩
theorem Zye {T ST:TypeId} {z:Value} {b:Nat} (E:Zw4 T ST z b) (ty:TypeId) (wr:World) (base:Nat) (w0:World) (v:Value) (l:List (Value×Value)) (y1 y2:Value) (hy:y1.oneCell'=true/\y2.oneCell'=true) (hown:OwnP T wr base v l) (hlen:l.length<1099511627776) (hbase:base<=wr.heap.size) (hb:Below base w0 wr) :
 ∃ v' w',(Builtin.append_ #[ST,ST] ty #[v,.slice (some ⟨wr.heap.size,0,none⟩) 1 1]).run Tryz.prog (wr.alloc (.cells #[y1,y2] T))=.ok v' w' /\
  OwnP T w' base v' (l++[(y1,y2)])/\Below base w0 w'/\base<=w'.heap.size/\Zci v v' wr w':=by
 obtain⟨i,hi,hz,hsz,hby⟩:=info_parts E.info;have hsm:=E.small;obtain⟨v',w',hr,h1,h2,_,hloc⟩:=run_append_own_at (P:=Tryz.prog) (wr.alloc (.cells #[y1,y2] T)) base ST ty T i z 2 b E.under hi hz hsz hby E.two (by decide)
  v l.length (pV l) (World.ownsRow.alloc hown _) ⟨wr.heap.size,0,none⟩ 1 1 [y1,y2] rfl (Zrp _ _ _ _) (by intro u hu;simp at hu;rcases hu with rfl|rfl;exact hy.1;exact hy.2) (by unfold maxLen;omega) (by
   have h1:(l.length+1)*b<=1099511627776*100:=Nat.mul_le_mul (by omega) hsm;omega) (by simp;omega)
 refine⟨v',w',hr,?_,(hb.alloc hbase _).grown h2 (by simp;omega) (fun k hk=>(hown.lt k hk).1),?_,⟨Zcp h2,hloc.imp id fun e=>⟨_,e,by simp⟩⟩⟩
 ·
  unfold OwnP;rw[List.length_append,Zpn];exact h1
 ·
  have:=h2.size;simp at this;omega
def natL (l:List (Int×BF)):List (Nat×BF):=l.map fun p=>(p.1.toNat,p.2)
theorem PlF.places (h:PlF n W o base v l) (hl:l.length<=9223372036854775807) (hp:∀ p∈l,0<=p.1):∃ a c,v=.slice a (natL l).length c/\Zfv n W a (natL l):=by
 obtain⟨ys,h1,h2,h3⟩:=h.ex;obtain⟨a,c,e,h4⟩:=h1.slice;refine⟨a,c,by rw[e,h2];simp[natL],by simpa [natL] using hl,fun k hk=>?_⟩;have hk2:k<l.length:=by simpa [natL] using hk
 have hy:k<ys.length:=by omega
 obtain⟨g,e1,c0,c1⟩:=h4 k hy;obtain⟨e2,h5⟩:=h3 k hk2 hy;obtain⟨ta,tc,e3,h6⟩:=h5.tab;have hz:=hp _ (List.getElem_mem hk2);refine⟨g,0,ta,tc,e1,?_,?_,?_⟩
 ·
  rw[Nat.zero_add,c0,e2];simp only[natL,List.getElem_map];rw[Int.toNat_of_nonneg hz]
 ·
  rw[Nat.zero_add,c1,e3]
 ·
  simpa [natL] using h6
theorem Zv4 {ps:List (Int×Int)} (h:OwnP 66 W base v (ps.map fun p=>(Value.int .i64 p.1,Value.int .i64 p.2))) (hl:ps.length<=9223372036854775807):∃ a c,v=.slice a ps.length c/\Zdc W a ps:=by
 obtain⟨a,c,e,h4⟩:=h.slice;refine⟨a,c,by rw[e];simp,hl,fun k hk=>?_⟩;obtain⟨g,e1,c0,c1⟩:=h4 k (by simpa using hk);refine⟨g,0,e1,?_,?_⟩
 ·
  rw[Nat.zero_add,c0];simp
 ·
  rw[Nat.zero_add,c1];simp
theorem Zwo {σ:Nat->BF} (l:List (Int×BF)) (hp:∀ p∈l,0<=p.1/\σ p.1.toNat=p.2) (hn:∀ u:Nat,(u:Int)∉l.map (·.1)->σ u=varF u):sigP (natL l)=σ:=by
 funext u;unfold sigP Zhk;cases e:(natL l).find? (fun p=>p.1 == u) with
 | none =>
   refine(hn u fun hm=>?_).symm;obtain⟨p,hp1,hp2⟩:=List.mem_map.1 hm;have h3:=List.find?_eq_none.1 e (p.1.toNat,p.2) (List.mem_map.2 ⟨p,hp1,rfl⟩);simp[hp2] at h3
 | some q =>
   have h1:=List.find?_some e;obtain⟨p,hp1,rfl⟩:=List.mem_map.1 (List.mem_of_find?_eq_some e);simp only[beq_iff_eq] at h1
   show p.2=σ u
   rw[<- (hp p hp1).2,h1]
theorem Zmp {l:List (Int×BF)} (hp:∀ p∈l,0<=p.1) (h:(l.map (·.1)).Nodup):((natL l).map (·.1)).Nodup:=by
 have e:(natL l).map (·.1)=(l.map (·.1)).map Int.toNat:=by simp[natL]
 rw[e];refine List.pairwise_map.2 (List.Pairwise.imp_of_mem ?_ h);intro a b ha hb hne e;obtain⟨p,hp1,rfl⟩:=List.mem_map.1 ha;obtain⟨q,hq1,rfl⟩:=List.mem_map.1 hb;have:=hp p hp1;have:=hp q hq1;exact hne (by omega)
theorem Zjt:∀ {l:List (Int×Int)},(l.map (·.1)).Nodup->∀ {u k:Int},(u,k)∈l->Zdb l u=some k:=by
 intro l h u k hm;obtain⟨k2,e1,e2⟩:=Zev (l:=l) (u:=u) (List.mem_map.2 ⟨_,hm,rfl⟩);rw[e1];have hp:=List.pairwise_map.1 h;obtain⟨i,hi,e3⟩:=List.getElem_of_mem hm;obtain⟨j,hj,e4⟩:=List.getElem_of_mem e2;have hij:i=j:=by
  have hq:=List.pairwise_iff_getElem.1 hp;rcases Nat.lt_trichotomy i j with c|c|c
  ·
   exact absurd (by rw[e3,e4]) (hq i j hi hj c)
  ·
   exact c
  ·
   exact absurd (by rw[e3,e4]) (hq j i hj hi c)
 subst hij;rw[e3] at e4;exact congrArg (fun p=>some p.2) e4.symm
end
open Go.RowKit
open Classical in
noncomputable def erN (n:Nat) (fs:List (Int×BF)) (nm:Bool):Int->Int:=if nm then erR n else erV fs
section
variable {K:Law} {n:Nat} {Od:List Nat->Prop} {room:Nat} {w0:World} {fs:List (Int×BF)} {nx:Int} {o o':Own} {w w' W:World} {mb:Nat} {m m':ManD} {V V':Nat->BF} {ps:List (Int×Int)}
theorem Zlr (h:SatE K n Od room w0 mb fs nx w o m V) (nm:Bool) {a:Option Addr} {c:Nat} (hz:Zdc w a ps) :
 Calls Tryz.prog 39 #[.pointer (some ⟨mb,0,none⟩),.int .i64 n,.slice a ps.length c,.bool nm] w fun x w'=>x=.returned (.int .i64 (Zb0 n (erN n fs nm) ps))/\Below w.heap.size w w':=by
 have hzl:=hz.len;have HZ:=Hd hz;have HIS:Hid (∀ W k b,Below w.heap.size w W->(b=true↔known fs k)->Calls Tryz.prog 36 #[.pointer (some ⟨mb,0,none⟩),.int .i64 k] W fun x w'=>x=.returned (.bool b)/\W=w'):=Hd fun W k b hb hk=>Zd6 (h.below hb) k hk
 obtain⟨er,her⟩:∃ er,er=erN n fs nm:=⟨_,rfl⟩;have HER:=Hd her;obtain⟨P,hP⟩:∃ P:Ending->World->Prop,P=fun x w'=>x=.returned (.int .i64 (Zb0 n er ps))/\Below w.heap.size w w':=⟨_,rfl⟩
 have HEND:Hid (∀ z W',Zb0 n er ps=z->Below w.heap.size w W'->P (.returned (.int .i64 z)) W'):=Hd fun z W' hz hb'=>by
  rw[hP];exact⟨by rw[hz],hb'⟩
 have HR0:Hid (Zbg n er ps=Zbg n er (ps.drop 0)):=Hd rfl;have HR1:Hid (Zbg n er ps≠0->Zb0 n er ps=Zbg n er ps):=Hd fun e=>by unfold Zb0;rw[if_neg e]
 have HR2:Hid (Zbg n er ps=0->Zb0 n er ps=if (ps.map (·.1)).Nodup then 0 else 6):=Hd fun e=>by unfold Zb0;rw[if_pos e]
 have HB0:Hid (Below w.heap.size w w):=Hd (Below.refl _ _);rw[<- her,<- hP];clear hP her h hz
 go_enter Tryz.func39,Tryz.ntmps39
 go_wp2_with fail
 go_loopw [8,10,15] (fun _ _ s15 wr=>∃ j:Nat,j<=ps.length/\s15=.int .i64 j/\Hid (Below w.heap.size w wr)/\Hid (Zbg n er ps=Zbg n er (ps.drop j))) (fun _ _ s15 _=>ps.length-(intOf s15).toNat)
 case atStart=>exact⟨0,Nat.zero_le _,rfl,HB0,HR0⟩
 case round =>
  clear HR0 HB0;obtain⟨j,hj,rfl,HBR,HE⟩:=hrel
  by_cases hlt:j<ps.length
  ·
   have hjz:(j:Int)<(ps.length:Int):=by omega
   obtain⟨b,off,rfl,ck0,ck1⟩:=HZ.out.cells j hlt;have d0:=(HBR.out.cell (p:=⟨b,off+j*2,none⟩) (Zaa ck0)).trans ck0;have d1:=(HBR.out.cell (p:=⟨b,off+j*2+1,none⟩) (Zaa ck1)).trans ck1;have HD:Hid (Zbg n er (ps.drop j)=if 0<=ps[j].1/\ps[j].1<(n:Int) then if er ps[j].2=0 then Zbg n er (ps.drop (j+1)) else er ps[j].2 else 9):=Hd (Zk6 hlt);obtain⟨p,hp⟩:∃ p,p=ps[j]:=⟨_,rfl⟩;rw[<- hp] at d0 d1 HD;obtain⟨pv,pk⟩:=p;dsimp only at d0 d1 HD;obtain⟨w2,hw2⟩:∃ w2,w2=wr.alloc (.cells #[.int .i64 pv,.int .i64 pk] 66):=⟨_,rfl⟩;have HW2:Hid (_=w2):=Hd hw2.symm;have hb2:Below w.heap.size w w2:=HBR.out.trans (by rw[hw2];exact(Zac _ _).mono HBR.out.size);have HB2:=Hd hb2;clear hp ck0 ck1 hb2
   by_cases h0:pv<0
   ·
    have HER2:Hid (Zbg n er ps=9):=Hd (by rw[HE.out,HD.out,if_neg (by omega)]);have HF:=Hd (HEND.out 9 w2 (by rw[HR1.out (by rw[HER2.out];decide),HER2.out]) HB2.out);subst hw2;clear HD HE HER2 HB2;go_wp2_with fail;exact HF.out
   by_cases h1:pv>=(n:Int)
   ·
    have HER2:Hid (Zbg n er ps=9):=Hd (by rw[HE.out,HD.out,if_neg (by omega)]);have HF:=Hd (HEND.out 9 w2 (by rw[HR1.out (by rw[HER2.out];decide),HER2.out]) HB2.out);subst hw2;clear HD HE HER2 HB2;go_wp2_with fail;exact HF.out
   have HE1:Hid (Zbg n er ps=if er pk=0 then Zbg n er (ps.drop (j+1)) else er pk):=Hd (by rw[HE.out,HD.out,if_pos (by omega)]);clear HE HD;cases nm with
   | true =>
     by_cases k0:pk<0
     ·
      have HER2:Hid (Zbg n er ps=9):=Hd (by
       have e:er pk=9:=by rw[HER.out];unfold erN;rw[if_pos rfl];unfold erR;rw[if_neg (by omega)]
       rw[HE1.out,e,if_neg (by decide)])
      have HF:=Hd (HEND.out 9 w2 (by rw[HR1.out (by rw[HER2.out];decide),HER2.out]) HB2.out);subst hw2;clear HE1 HER2 HB2;go_wp2_with fail;exact HF.out
     by_cases k1:pk>=(n:Int)
     ·
      have HER2:Hid (Zbg n er ps=9):=Hd (by
       have e:er pk=9:=by rw[HER.out];unfold erN;rw[if_pos rfl];unfold erR;rw[if_neg (by omega)]
       rw[HE1.out,e,if_neg (by decide)])
      have HF:=Hd (HEND.out 9 w2 (by rw[HR1.out (by rw[HER2.out];decide),HER2.out]) HB2.out);subst hw2;clear HE1 HER2 HB2;go_wp2_with fail;exact HF.out
     ·
      have HE2:Hid (Zbg n er ps=Zbg n er (ps.drop (j+1))):=Hd (by rw[HE1.out,if_pos (by rw[HER.out];unfold erN erR;rw[if_pos rfl,if_pos (by omega)])]);subst hw2;clear HE1;go_wp2_with fail;go_roundw
      case rel=>exact⟨j+1,by omega,by go_num,HB2,HE2⟩
      case measure=>simp[intOf];omega
   | false =>
     by_cases hk:known fs pk
     ·
      have HE2:Hid (Zbg n er ps=Zbg n er (ps.drop (j+1))):=Hd (by rw[HE1.out,if_pos (by rw[HER.out];unfold erN erV;rw[if_neg (by decide),if_pos hk])]);have HI:=Hd (HIS.out w2 pk true HB2.out (by simp[hk]));subst hw2;clear HE1 hk;go_wp2_with fail;refine HI.out.mono ?_;rintro x w' ⟨rfl,rfl⟩;go_wp2_with fail;go_roundw
      case rel=>exact⟨j+1,by omega,by go_num,HB2,HE2⟩
      case measure=>simp[intOf];omega
     ·
      have HER2:Hid (Zbg n er ps=8):=Hd (by
       have e:er pk=8:=by rw[HER.out];unfold erN erV;rw[if_neg (by decide),if_neg hk]
       rw[HE1.out,e,if_neg (by decide)])
      have HF:=Hd (HEND.out 8 w2 (by rw[HR1.out (by rw[HER2.out];decide),HER2.out]) HB2.out);have HI:=Hd (HIS.out w2 pk false HB2.out (by simp[hk]));subst hw2;clear HE1 HER2 HB2 hk;go_wp2_with fail;refine HI.out.mono ?_;rintro x w' ⟨rfl,rfl⟩;go_wp2_with fail;exact HF.out
  ·
   obtain rfl:j=ps.length:=by omega
   have hjz:¬ (ps.length:Int)<(ps.length:Int):=by omega
   have HE0:Hid (Zbg n er ps=0):=Hd (by rw[HE.out,List.drop_length];rfl);have HR:Hid (Zb0 n er ps=if (ps.map (·.1)).Nodup then 0 else 6):=Hd (HR2.out HE0.out);have HN0:Hid (((ps.take 0).map (·.1)).Nodup):=Hd (by simp);clear HE HE0 HR1 HR2 HER HIS;go_wp2_with fail
   go_loopw [8,11,12,52] (fun _ _ _ s52 wr=>∃ i:Nat,i<=ps.length/\s52=.int .i64 i/\Hid (Below w.heap.size w wr)/\Hid (((ps.take i).map (·.1)).Nodup)) (fun _ _ _ s52 _=>ps.length-(intOf s52).toNat)
   case atStart=>exact⟨0,Nat.zero_le _,rfl,HBR,HN0⟩
   case round =>
    clear HBR HN0;obtain⟨i,hi,rfl,HBR,HN⟩:=hrel
    by_cases hlt:i<ps.length
    ·
     have hiz:(i:Int)<(ps.length:Int):=by omega
     go_wp2_with fail
     go_loopw [8,12] (fun _ s12 wr=>∃ k:Nat,k<=i/\s12=.int .i64 k/\Hid (Below w.heap.size w wr)/\Hid (∀ q,∀ hq:q<k,∀ h2:q<ps.length,ps[q].1≠ps[i].1)) (fun _ s12 _=>i-(intOf s12).toNat)
     case atStart=>exact⟨0,Nat.zero_le _,rfl,HBR,Hd fun q hq=>by omega⟩
     case round =>
      clear HBR;obtain⟨k,hk,rfl,HBR,HNO⟩:=hrel
      by_cases hki:k<i
      ·
       have hkz:(k:Int)<(i:Int):=by omega
       have hkz2:(k:Int)<(ps.length:Int):=by omega
       obtain⟨b,off,rfl,c0,c0'⟩:=HZ.out.cells i hlt;obtain⟨b',off',e1,c1,c1'⟩:=HZ.out.cells k (by omega);injection e1 with e1
       injection e1 with e1 e2
       subst e1;subst e2
       have d0:wr.drew.cell? ⟨b,off+i*2,none⟩=some (.int .i64 ps[i].1):=(HBR.out.cell (p:=⟨b,off+i*2,none⟩) (Zaa c0)).trans c0;have d1:wr.drew.cell? ⟨b,off+k*2,none⟩=some (.int .i64 ps[k].1):=(HBR.out.cell (p:=⟨b,off+k*2,none⟩) (Zaa c1)).trans c1;obtain⟨x,hx⟩:∃ x,x=ps[i].1:=⟨_,rfl⟩;obtain⟨y,hy⟩:∃ y,y=ps[k].1:=⟨_,rfl⟩;rw[<- hx] at d0;rw[<- hy] at d1;have HXY:Hid (x=y->¬ (ps.map (·.1)).Nodup):=Hd fun e hnd=>by
        have:=List.pairwise_iff_getElem.1 hnd k i (by simp;omega) (by simp;omega) hki;simp only[List.getElem_map] at this;exact this (by rw[<- hy,<- hx,e])
       have HXN:Hid (x≠y->∀ q,∀ hq:q<k+1,∀ h2:q<ps.length,ps[q].1≠ps[i].1):=Hd fun e q hq h2=>by
        rcases Nat.lt_or_ge q k with c|c
        ·
         exact HNO.out q c h2
        ·
         obtain rfl:q=k:=by omega
         rw[<- hy,<- hx];exact fun h=>e h.symm
       have HB2:Hid (Below w.heap.size w wr.drew):=Hd (HBR.out.trans ((Zaf wr 1).mono HBR.out.size));have HSIX:Hid (x=y->P (.returned (.int .i64 6)) wr.drew):=Hd fun e=>HEND.out 6 wr.drew (by rw[HR.out,if_neg (HXY.out e)]) HB2.out
       clear c0 c0' c1 c1' hx hy HXY HNO HBR HN HEND;go_upto_region 17 with fail;refine Zfb [0,1,2,3,4,5,6,7,8,9,10] (fun W'=>W'=wr.drew) (fun ch w'=>False) (fun c a w hd h=>h.elim) (by kernel_rfl) rfl ?_
       iterate 11
        refine Zdd rfl rfl (by kernel_rfl) ?_;apply Exists.intro;refine⟨fun w' hw=>?_,?_⟩
        ·
         obtain rfl:=hw;go_simp;rfl
        simp only[Zag]
       refine Zjs (by kernel_rfl) ?_;clear d0 d1
       by_cases he:x=y
       ·
        have HF:=Hd (HSIX.out he);have hb:(x == y)=true:=by simpa using he
        clear HSIX HXN he;go_wp2_with fail;exact HF.out
       ·
        have HN2:=Hd (HXN.out he);have hb:(x == y)=false:=by simpa using he
        clear HSIX HXN he;go_wp2_with fail;go_roundw
        case rel=>exact⟨k+1,by omega,by go_num,HB2,HN2⟩
        case measure=>simp[intOf];omega
      ·
       obtain rfl:k=i:=by omega
       have hkz:¬ (k:Int)<(k:Int):=by omega
       have HN2:Hid (((ps.take (k+1)).map (·.1)).Nodup):=Hd (by
        rw[List.take_succ_eq_append_getElem hlt,List.map_append,List.nodup_append];refine⟨HN.out,by simp,?_⟩;intro a ha b hb e;simp only[List.map_cons,List.map_nil,List.mem_singleton] at hb;obtain⟨p,hp,e2⟩:=List.mem_map.1 ha;obtain⟨q,hq,e3⟩:=List.mem_iff_getElem.1 hp;have hq2:q<k:=by simp at hq;omega
        rw[List.getElem_take] at e3;exact HNO.out q hq2 (by omega) (by rw[e3,e2,e,hb]))
       clear HNO HN;go_wp2_with fail;go_roundw
       case rel=>exact⟨k+1,by omega,by go_num,HBR,HN2⟩
       case measure=>simp[intOf];omega
    ·
     obtain rfl:i=ps.length:=by omega
     have hiz:¬ (ps.length:Int)<(ps.length:Int):=by omega
     have HF:=Hd (HEND.out 0 wr (by rw[HR.out,if_pos (by have:=HN.out;rwa [List.take_length] at this)]) HBR.out);clear HN;go_wp2_with fail;exact HF.out
end
open Go.RowKit
def psOf (ts:List (Int×Int×BF)):List (Int×Int):=ts.map fun t=>(t.1,t.2.1)
def plOf (ts:List (Int×Int×BF)):List (Int×BF):=ts.map fun t=>(t.1,t.2.2)
def prOf (ts:List (Int×Int×BF)):List (Value×Value):=(psOf ts).map fun p=>(Value.int .i64 p.1,Value.int .i64 p.2)
def rnOf (ps:List (Int×Int)):List (Int×BF):=ps.map fun p=>(p.1,varF p.2.toNat)
theorem Zxg {fs:List (Int×BF)} {k:Int} (h:erV fs k=0):known fs k:=by
 unfold erV at h
 by_cases e:known fs k
 ·
  exact e
 ·
  rw[if_neg e] at h;exact absurd h (by decide)
theorem Zxf {n:Nat} {k:Int} (h:erR n k=0):0<=k/\k<(n:Int):=by
 unfold erR at h
 by_cases e:0<=k/\k<(n:Int)
 ·
  exact e
 ·
  rw[if_neg e] at h;exact absurd h (by decide)
section
variable {K:Law} {n:Nat} {Od:List Nat->Prop} {room:Nat} {w0:World} {fs:List (Int×BF)} {nx:Int} {o:Own} {w:World} {mb:Nat} {m:ManD} {V:Nat->BF}
theorem Ya5 (h:SatE K n Od room w0 mb fs nx w o m V) {ts:List (Int×Int×BF)} (hr:Zb0 n (erV fs) (psOf ts)=0) (hk:∀ t∈ts,known fs t.2.1->(t.2.1,t.2.2)∈fs) :
 sigP (natL (plOf ts))=sigV fs (psOf ts)/\((natL (plOf ts)).map (·.1)).Nodup/\(∀ p∈natL (plOf ts),p.1<n)/\∀ p∈plOf ts,0<=p.1:=by
 obtain⟨h1,h2⟩:=Zf5 hr;have h3:=Zew h1;have h0:∀ p∈plOf ts,0<=p.1/\p.1<(n:Int):=fun p hp=>by
  obtain⟨t,ht,rfl⟩:=List.mem_map.1 hp;exact(h3 (t.1,t.2.1) (List.mem_map.2 ⟨t,ht,rfl⟩)).1
 have e1:(plOf ts).map (·.1)=(psOf ts).map (·.1):=by simp[plOf,psOf]
 refine⟨Zwo _ (fun p hp=>⟨(h0 p hp).1,?_⟩) (fun u hu=>?_),Zmp (fun p hp=>(h0 p hp).1) (by rw[e1];exact h2),fun p hp=>?_,fun p hp=>(h0 p hp).1⟩
 ·
  have hz:=(h0 p hp).1;obtain⟨t,ht,rfl⟩:=List.mem_map.1 hp;have hm:(t.1,t.2.1)∈psOf ts:=List.mem_map.2 ⟨t,ht,rfl⟩;have hkn:=Zxg (h3 _ hm).2;unfold sigV;have hz':((t.1.toNat:Nat):Int)=t.1:=Int.toNat_of_nonneg hz;rw[show (((t.1,t.2.2):Int×BF).1.toNat:Int)=t.1 from hz',Zjt h2 hm];exact h.fn_eq (Zu4 hkn) (hk t ht hkn)
 ·
  unfold sigV;rw[e1] at hu;rw[Zcm hu]
 ·
  obtain⟨q,hq,rfl⟩:=List.mem_map.1 hp;have:=h0 q hq
  show q.1.toNat<n
  omega
end
theorem Yax {n:Nat} {ps:List (Int×Int)} (hr:Zb0 n (erR n) ps=0):sigP (natL (rnOf ps))=sigR ps/\((natL (rnOf ps)).map (·.1)).Nodup/\(∀ p∈natL (rnOf ps),p.1<n)/\(∀ p∈rnOf ps,0<=p.1)/\∀ p∈ps,0<=p.2/\p.2<(n:Int):=by
 obtain⟨h1,h2⟩:=Zf5 hr;have h3:=Zew h1;have h0:∀ p∈rnOf ps,0<=p.1/\p.1<(n:Int):=fun p hp=>by
  obtain⟨t,ht,rfl⟩:=List.mem_map.1 hp;exact(h3 t ht).1
 have e1:(rnOf ps).map (·.1)=ps.map (·.1):=by simp[rnOf]
 refine⟨Zwo _ (fun p hp=>⟨(h0 p hp).1,?_⟩) (fun u hu=>?_),Zmp (fun p hp=>(h0 p hp).1) (by rw[e1];exact h2),fun p hp=>?_,fun p hp=>(h0 p hp).1,fun p hp=>Zxf (h3 p hp).2⟩
 ·
  have hz:=(h0 p hp).1;obtain⟨t,ht,rfl⟩:=List.mem_map.1 hp;unfold sigR;have hz':((t.1.toNat:Nat):Int)=t.1:=Int.toNat_of_nonneg hz;rw[show (((t.1,varF t.2.toNat):Int×BF).1.toNat:Int)=t.1 from hz',Zjt h2 (show (t.1,t.2)∈ps from ht)]
 ·
  unfold sigR;rw[e1] at hu;rw[Zcm hu]
 ·
  obtain⟨q,hq,rfl⟩:=List.mem_map.1 hp;have:=h0 q hq
  show q.1.toNat<n
  omega
end Go.Proofs.YtmofaapnkidioaaGreat

namespace Go.Proofs.YtmofaapnkidioaaGreat
open Go.RowKit Go.Deep Go.ChangeShapes Go.WideShapes
theorem wfI {x:Int} (h:(Lit.int .i64 x).wf=true):okI x:=by
 unfold okI;simp only[Lit.wf,IntKind.min,IntKind.max,IntKind.signed,IntKind.bits,Bool.and_eq_true,decide_eq_true_eq,if_true] at h;omega
theorem Zj2 {b off:Nat} (k:Nat):(⟨b,off,none⟩:Addr).add k=⟨b,off+k,none⟩:=by unfold Addr.add;split<;>simp_all
theorem add0 (a:Addr):a.add 0=a:=by simp[Addr.add]
theorem Ze9 {w:World} {a:Addr} {v:Value} (h:w.cell? a=some v):a.spot=none:=by
 obtain⟨b,off,spot⟩:=a;cases spot with
 | none=>rfl
 | some s=>simp[World.cell?] at h;split at h<;>simp at h
theorem Zum {n:Nat} {p:Nat->Ev->Prop} (h:∀ i,i<n->∃ x,p i x):∃ f:Nat->Ev,∀ i,i<n->p i (f i):=by
 classical
 refine⟨fun i=>if hi:i<n then Classical.choose (h i hi) else ⟨0,0,0⟩,fun i hi=>?_⟩;simp only[dif_pos hi];exact Classical.choose_spec (h i hi)
theorem Zka {H:Type} {enc:TypeId×Value->H} {P:Program} {w:World} {base:Nat} {spare:Nat->Bool} {held:Bool} {t e:TypeId} {fuel:Nat} {cs:List Value} {x:DataW H×List MemPlace} (ht:P.underlying t=some (.slice e)) (h:DataW.trod enc P w base spare held fuel t cs=some x) :
 cs=[.slice none 0 0]\/∃ (a:Addr) (len cap n:Nat),cs=[.slice (some a) len cap]/\len<=cap/\cap<=maxLen/\fuel=n+1/\∀ i,i<len->∃ cs' y,w.cells? base (a.add (i*P.cellsOf e)) (P.cellsOf e)=some cs'/\DataW.trod enc P w base spare held n e cs'=some y:=by
 rcases DataW.trod_slice ht h with ⟨h0,_⟩|⟨a,len,cap,elems,rest,n,hn,e1,_,_,hl,hm,hlen,hel,_⟩
 ·
  exact .inl h0
 ·
  refine .inr ⟨a,len,cap,n,e1,hl,hm,hn,fun i hi=>?_⟩;have:=hel i hi;rw[List.getElem?_eq_getElem (by omega)] at this;obtain⟨cs',h1,h2⟩:=Option.bind_eq_some_iff.1 this;exact⟨cs',_,h1,h2⟩
theorem Zvz {H:Type} {enc:TypeId×Value->H} {w:World} {base:Nat} {spare:Nat->Bool} {held:Bool}:∀ (fuel:Nat) {cs:List Value} {x:DataW H×List MemPlace},
 DataW.trod enc Tryz.prog w base spare held fuel 86 cs=some x->∃ e x0 x1 x2,cs=[x0,x1,x2]/\Zbb w e (.agg #[x0,x1,x2]):=by
 intro fuel
 induction fuel using Nat.strongRecOn with
 | _ fuel IH =>
   intro cs x h;obtain⟨xs,k,hk,hxy,hcl,hxl,hf⟩:=DataW.trod_struct Tryz.underlying86 h;have c1:Tryz.prog.cellsOf 3=1:=by kernel_rfl
   have c2:Tryz.prog.cellsOf 23=1:=by kernel_rfl
   have c3:Tryz.prog.cellsOf 86=3:=by kernel_rfl
   rw[c3] at hcl
   match xs,hxl,cs,hcl with
   | [y0,y1,y2],_,[v0,v1,v2],_ =>
     have g0:=hf 0 _ rfl;have g1:=hf 1 _ rfl;have g2:=hf 2 _ rfl;simp[c1,c2] at g0 g1 g2;obtain⟨n0,e0,_,w0⟩:=DataW.trod_int Tryz.underlying3 g0;obtain⟨n1,e1,_,w1⟩:=DataW.trod_int Tryz.underlying3 g1;simp only[List.cons.injEq,and_true] at e0 e1;subst e0 e1;rcases Zka Tryz.underlying23 g2 with e2|⟨a,len,cap,n,e2,hl,hm,hkn,hx⟩
     ·
      simp only[List.cons.injEq,and_true] at e2;subst e2;exact⟨.mk n0 n1 0 (fun _=>.nil),_,_,_,rfl,by unfold Zbb;exact⟨none,0,rfl,wfI w0,wfI w1,by omega,fun k hk=>by omega⟩⟩
     ·
      simp only[List.cons.injEq,and_true] at e2;subst e2;have each:∀ i,i<len->∃ q:ExT,∃ x0 x1 x2,w.cell? (a.add (i*3))=some x0/\w.cell? ((a.add (i*3)).add 1)=some x1/\w.cell? ((a.add (i*3)).add 2)=some x2/\Zbb w q (.agg #[x0,x1,x2]):=by
       intro i hi;obtain⟨cs',y,h1,h2⟩:=hx i hi;rw[c3] at h1;obtain⟨_,hlen,hcell⟩:=World.cells?_some h1;obtain⟨e,x0,x1,x2,rfl,he⟩:=IH n (by omega) h2;have f0:=hcell 0 (by omega);have f1:=hcell 1 (by omega);have f2:=hcell 2 (by omega);rw[add0] at f0;exact⟨e,x0,x1,x2,by simpa using f0,by simpa using f1,by simpa using f2,he⟩
      obtain⟨q,hq⟩:=choose_lt each;refine⟨.mk n0 n1 len q,_,_,_,rfl,?_⟩;unfold Zbb;refine⟨some a,cap,rfl,wfI w0,wfI w1,by unfold maxLen at hm;omega,fun i hi=>?_⟩;obtain⟨x0,x1,x2,f0,f1,f2,he⟩:=hq i hi;have hsp:a.spot=none:=by
       obtain⟨_,_,_,q0,_⟩:=hq 0 (by omega);have:=Ze9 q0;simpa [Addr.add] using this
      obtain⟨b,off,spot⟩:=a;dsimp only at hsp;subst hsp;simp only[Zj2] at f0 f1 f2;exact⟨b,off,x0,x1,x2,rfl,f0,f1,f2,he⟩
theorem Ztf {H:Type} {enc:TypeId×Value->H} {w:World} {base:Nat} {spare:Nat->Bool} {held:Bool} {fuel:Nat} {cs:List Value} {x:DataW H×List MemPlace}
 (h:DataW.trod enc Tryz.prog w base spare held fuel 23 cs=some x):∃ a l cap,cs=[.slice a l.length cap]/\Zki w a l:=by
 have c3:Tryz.prog.cellsOf 86=3:=by kernel_rfl
 rcases Zka Tryz.underlying23 h with e2|⟨a,len,cap,n,e2,hl,hm,hkn,hx⟩
 ·
  exact⟨none,[],0,e2,⟨by simp,fun k hk=>by simp at hk⟩⟩
 ·
  subst e2;have each:∀ i,i<len->∃ q:ExT,∃ x0 x1 x2,w.cell? (a.add (i*3))=some x0/\w.cell? ((a.add (i*3)).add 1)=some x1/\w.cell? ((a.add (i*3)).add 2)=some x2/\Zbb w q (.agg #[x0,x1,x2]):=by
   intro i hi;obtain⟨cs',y,h1,h2⟩:=hx i hi;rw[c3] at h1;obtain⟨_,hlen,hcell⟩:=World.cells?_some h1;obtain⟨e,x0,x1,x2,rfl,he⟩:=Zvz n h2;have f0:=hcell 0 (by omega);have f1:=hcell 1 (by omega);have f2:=hcell 2 (by omega);rw[add0] at f0;exact⟨e,x0,x1,x2,by simpa using f0,by simpa using f1,by simpa using f2,he⟩
  obtain⟨q,hq⟩:=choose_lt each;refine⟨some a,(List.range len).map q,cap,by simp,⟨by unfold maxLen at hm;simp;omega,fun i hi=>?_⟩⟩;have hi':i<len:=by simpa using hi
  obtain⟨x0,x1,x2,f0,f1,f2,he⟩:=hq i hi';have hsp:a.spot=none:=by
   obtain⟨_,_,_,q0,_⟩:=hq 0 (by omega);have:=Ze9 q0;simpa [Addr.add] using this
  obtain⟨b,off,spot⟩:=a;dsimp only at hsp;subst hsp;simp only[Zj2] at f0 f1 f2;exact⟨b,off,x0,x1,x2,rfl,f0,f1,f2,by simpa using he⟩
theorem open_evs {H:Type} {enc:TypeId×Value->H} {w:World} {base:Nat} {spare:Nat->Bool} {held:Bool} {fuel:Nat} {cs:List Value} {x:DataW H×List MemPlace}
 (h:DataW.trod enc Tryz.prog w base spare held fuel 24 cs=some x):∃ a l cap,cs=[.slice a l.length cap]/\EvsAt w a l/\(∀ ev∈l,okI ev.after/\okI ev.kind/\okI ev.level)/\(a=none->cap=0)/\l.length<=cap/\cap<=maxLen:=by
 have c1:Tryz.prog.cellsOf 3=1:=by kernel_rfl
 have c3:Tryz.prog.cellsOf 103=3:=by kernel_rfl
 rcases Zka Tryz.underlying24 h with e2|⟨a,len,cap,n,e2,hl,hm,hkn,hx⟩
 ·
  exact⟨none,[],0,e2,⟨by simp,fun k hk=>by simp at hk⟩,by simp,fun _=>rfl,by simp,by simp⟩
 ·
  subst e2;have each:∀ i,i<len->∃ q:Ev,w.cell? (a.add (i*3))=some (.int .i64 q.after)/\w.cell? ((a.add (i*3)).add 1)=some (.int .i64 q.kind)/\w.cell? ((a.add (i*3)).add 2)=some (.int .i64 q.level)/\okI q.after/\okI q.kind/\okI q.level:=by
   intro i hi;obtain⟨cs',y,h1,h2⟩:=hx i hi;rw[c3] at h1;obtain⟨_,hlen,hcell⟩:=World.cells?_some h1;obtain⟨xs,k,hk,hxy,_,hxl,hf⟩:=DataW.trod_struct Tryz.underlying103 h2
   match xs,hxl,cs',hlen with
   | [y0,y1,y2],_,[v0,v1,v2],_ =>
     have g0:=hf 0 _ rfl;have g1:=hf 1 _ rfl;have g2:=hf 2 _ rfl;simp[c1] at g0 g1 g2;obtain⟨n0,e0,_,w0⟩:=DataW.trod_int Tryz.underlying3 g0;obtain⟨n1,e1,_,w1⟩:=DataW.trod_int Tryz.underlying3 g1;obtain⟨n2,e2,_,w2⟩:=DataW.trod_int Tryz.underlying3 g2;simp only[List.cons.injEq,and_true] at e0 e1 e2;subst e0 e1 e2;have f0:=hcell 0 (by omega);have f1:=hcell 1 (by omega);have f2:=hcell 2 (by omega);rw[add0] at f0;exact⟨⟨n0,n1,n2⟩,by simpa using f0,by simpa using f1,by simpa using f2,wfI w0,wfI w1,wfI w2⟩
  obtain⟨q,hq⟩:=Zum each;refine⟨some a,(List.range len).map q,cap,by simp,⟨by unfold maxLen at hm;simp;omega,fun i hi=>?_⟩,?_,by simp,by simpa using hl,hm⟩
  ·
   have hi':i<len:=by simpa using hi
   obtain⟨f0,f1,f2,_⟩:=hq i hi';have hsp:a.spot=none:=by
    obtain⟨q0,_⟩:=hq 0 (by omega);have:=Ze9 q0;simpa [Addr.add] using this
   obtain⟨b,off,spot⟩:=a;dsimp only at hsp;subst hsp;simp only[Zj2] at f0 f1 f2;exact⟨b,off,rfl,by simpa using f0,by simpa using f1,by simpa using f2⟩
  ·
   intro ev hev;obtain⟨i,hi,rfl⟩:=List.mem_map.1 hev;exact(hq i (by simpa using hi)).2.2.2
theorem open_ask {H:Type} {enc:TypeId×Value->H} {w:World} {base:Nat} {held:Bool} {fuel:Nat} {v:Value} {cs:Array Value} {x:DataW H×List MemPlace} (hv:v=.agg cs)
 (h:DataW.trod enc Tryz.prog w base (fun _=>true) held fuel 26 v.cells.toList=some x):∃ q ao ae ap co ce cp,v=askV q ao ae ap co ce cp/\AskAt w q ao ae ap/\(∀ ev∈q.plan,okI ev.after/\okI ev.kind/\okI ev.level)/\(ao=none->co=0)/\(ap=none->cp=0)/\q.plan.length<=cp/\cp<=maxLen:=by
 subst hv;obtain⟨xs,k,hk,hxy,hcl,hxl,hf⟩:=DataW.trod_struct Tryz.underlying26 h;have c1:Tryz.prog.cellsOf 3=1:=by kernel_rfl
 have c2:Tryz.prog.cellsOf 22=1:=by kernel_rfl
 have c4:Tryz.prog.cellsOf 23=1:=by kernel_rfl
 have c5:Tryz.prog.cellsOf 24=1:=by kernel_rfl
 have c3:Tryz.prog.cellsOf 26=4:=by kernel_rfl
 rw[c3] at hcl;obtain⟨cl⟩:=cs;simp only[Value.cells] at hcl hf
 match xs,hxl,cl,hcl with
 | [y0,y1,y2,y3],_,[v0,v1,v2,v3],_ =>
   have g0:=hf 0 _ rfl;have g1:=hf 1 _ rfl;have g2:=hf 2 _ rfl;have g3:=hf 3 _ rfl;simp[c1,c2,c4,c5] at g0 g1 g2 g3;obtain⟨n0,e0,_,w0⟩:=DataW.trod_int Tryz.underlying3 g0;simp only[List.cons.injEq,and_true] at e0;subst e0;obtain⟨ao,zs,co,e1,hio,hno⟩:∃ a zs c,v1=.slice a zs.length c/\Zay w a zs/\(a=none->c=0):=by
    rcases open_ints Tryz.underlying22 Tryz.underlying3 (by kernel_rfl) g1 with ⟨hcs,_⟩|⟨x,l,c,zs,hcs,_,hl,hm,hz,_,hcell,hwz⟩
    ·
     simp at hcs;subst hcs;obtain⟨a,c,e,h1,h2⟩:=sliceIs_of_row (w:=w) (a:=none) (len:=0) (cap:=0) (.inl ⟨rfl,rfl,rfl,rfl⟩);exact⟨a,_,c,e,h1,h2⟩
    ·
     simp at hcs;subst hcs;obtain⟨a,c,e,h1,h2⟩:=sliceIs_of_row (w:=w) (.inr ⟨_,rfl,hl,hm,by simpa using hz,hcell,hwz⟩);exact⟨a,_,c,e,h1,h2⟩
   obtain⟨ae,es,ce,e2,hes⟩:=Ztf g2;obtain⟨ap,evs,cp,e3,hev,hok,hnp,hlp,hmp⟩:=open_evs g3;simp only[List.cons.injEq,and_true] at e2 e3;subst e1 e2 e3;exact⟨⟨n0,zs,es,evs⟩,ao,ae,ap,co,ce,cp,rfl,⟨wfI w0,hio,hes,hev⟩,hok,hno,hnp,hlp,hmp⟩
end Go.Proofs.YtmofaapnkidioaaGreat

namespace Go.Proofs.YtmofaapnkidioaaGreat
open Go.RowKit Go.Deep Go.ChangeShapes Go.WideShapes
theorem Zq6 {H:Type} {enc:TypeId×Value->H} {w:World} {base:Nat} {spare:Nat->Bool} {held:Bool} {fuel:Nat} {cs:List Value} {x:DataW H×List MemPlace}
 (h:DataW.trod enc Tryz.prog w base spare held fuel 64 cs=some x):∃ a l cap,cs=[.slice a l.length cap]/\Zdc w a l:=by
 have c1:Tryz.prog.cellsOf 3=1:=by kernel_rfl
 have c3:Tryz.prog.cellsOf 66=2:=by kernel_rfl
 rcases Zka Tryz.underlying64 h with e2|⟨a,len,cap,n,e2,hl,hm,hkn,hx⟩
 ·
  exact⟨none,[],0,e2,⟨by simp,fun k hk=>by simp at hk⟩⟩
 ·
  subst e2;have each:∀ i,i<len->∃ q:Int×Int,w.cell? (a.add (i*2))=some (.int .i64 q.1)/\w.cell? ((a.add (i*2)).add 1)=some (.int .i64 q.2):=by
   intro i hi;obtain⟨cs',y,h1,h2⟩:=hx i hi;rw[c3] at h1;obtain⟨_,hlen,hcell⟩:=World.cells?_some h1;obtain⟨xs,k,hk,hxy,_,hxl,hf⟩:=DataW.trod_struct Tryz.underlying66 h2
   match xs,hxl,cs',hlen with
   | [y0,y1],_,[v0,v1],_ =>
     have g0:=hf 0 _ rfl;have g1:=hf 1 _ rfl;simp[c1] at g0 g1;obtain⟨n0,e0,_,w0⟩:=DataW.trod_int Tryz.underlying3 g0;obtain⟨n1,e1,_,w1⟩:=DataW.trod_int Tryz.underlying3 g1;simp only[List.cons.injEq,and_true] at e0 e1;subst e0 e1;have f0:=hcell 0 (by omega);have f1:=hcell 1 (by omega);rw[add0] at f0;exact⟨(n0,n1),by simpa using f0,by simpa using f1⟩
  obtain⟨q,hq⟩:∃ q:Nat->Int×Int,∀ i,i<len->w.cell? (a.add (i*2))=some (.int .i64 (q i).1)/\w.cell? ((a.add (i*2)).add 1)=some (.int .i64 (q i).2):=by
   classical
   refine⟨fun i=>if hi:i<len then Classical.choose (each i hi) else (0,0),fun i hi=>?_⟩;simp only[dif_pos hi];exact Classical.choose_spec (each i hi)
  refine⟨some a,(List.range len).map q,cap,by simp,⟨by unfold maxLen at hm;simp;omega,fun i hi=>?_⟩⟩;have hi':i<len:=by simpa using hi
  obtain⟨f0,f1⟩:=hq i hi';have hsp:a.spot=none:=by
   obtain⟨q0,_⟩:=hq 0 (by omega);have:=Ze9 q0;simpa [Addr.add] using this
  obtain⟨b,off,spot⟩:=a;dsimp only at hsp;subst hsp;simp only[Zj2] at f0 f1;exact⟨b,off,rfl,by simpa using f0,by simpa using f1⟩
theorem open_pairs {H:Type} {enc:TypeId×Value->H} {w:World} {base b0:Nat} {spare:Nat->Bool} {held:Bool} {r:Reach} {v:Value} {d:DataW H} {ps:List MemPlace} (hval:Value.okWide Tryz.prog w r b0 64 v) (hd:DataW.Trod enc Tryz.prog w base spare held 64 v d ps) :
 ∃ (a:Option Addr) (l:List (Int×Int)) (c:Nat),v=.slice a l.length c/\Zdc w a l:=by
 obtain⟨a,len,cap,rfl⟩:=okWide_slice Tryz.underlying64 hval;obtain⟨fuel,hf⟩:=hd;obtain⟨a',l,cap',hcs,hp⟩:=Zq6 hf;simp[Value.cells] at hcs;obtain⟨rfl,rfl,rfl⟩:=hcs;exact⟨a,l,cap,rfl,hp⟩
end Go.Proofs.YtmofaapnkidioaaGreat
