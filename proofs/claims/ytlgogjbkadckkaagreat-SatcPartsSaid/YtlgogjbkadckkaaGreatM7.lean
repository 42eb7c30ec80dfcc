/- Several texts in one file: contracts of the program's functions and what follows from them. -/
import Derived.Test.YtlgogjbkadckkaaGreatM6
import Derived.Maps.RangeRun
set_option linter.unusedSimpArgs false
set_option linter.unusedVariables false
set_option linter.unusedSectionVars false
set_option linter.unnecessarySimpa false
set_option maxRecDepth 100000
set_option maxHeartbeats 8000000
namespace Go.Proofs.YtlgogjbkadckkaaGreat
open Go.RowKit
theorem Zvk {w:World} {x y c:Nat} (hx:x<4294967296) (hy:y<4294967296) (hc:c<=1) :
 Calls Tryz.prog 46 #[.int .u32 x,.int .u32 y,.int .u32 c] w fun e w'=>e=.returned (.tuple #[.int .u32 ((x+y+c)%4294967296:Nat),.int .u32 ((x+y+c)/4294967296:Nat)])/\w=w':=by
 have e1:IntKind.u64.wrap ((x:Int)+(y:Int))=(x:Int)+(y:Int):=by rw[IntKind.wrap_u64];omega
 have e2:IntKind.u64.wrap ((x:Int)+(y:Int)+(c:Int))=(x:Int)+(y:Int)+(c:Int):=by rw[IntKind.wrap_u64];omega
 obtain⟨P,hP⟩:∃ P:Ending->World->Prop,P=fun e w'=>e=.returned (.tuple #[.int .u32 ((x+y+c)%4294967296:Nat),.int .u32 ((x+y+c)/4294967296:Nat)])/\w=w':=⟨_,rfl⟩
 rw[<- hP];have HP:=Hd hP;clear hP
 go_enter Tryz.func46,Tryz.ntmps46
 go_wp2_with fail;rw[HP.out];refine⟨?_,rfl⟩
 show Ending.returned (.tuple #[.int .u32 (((x:Int)+(y:Int)+(c:Int))%4294967296),.int .u32 (((x:Int)+(y:Int)+(c:Int))/4294967296)])=_
 rw[show (((x+y+c)%4294967296:Nat):Int)=((x:Int)+(y:Int)+(c:Int))%4294967296 by omega,show (((x+y+c)/4294967296:Nat):Int)=((x:Int)+(y:Int)+(c:Int))/4294967296 by omega]
theorem tb31 {n:Nat} (h:n<4294967296):n.testBit 31=decide (2147483648<=n):=by
 rw[Nat.testBit_eq_decide_div_mod_eq];exact decide_eq_decide.2 (by omega)
theorem div31 {n:Nat} (h:n<4294967296):n/2147483648=(n.testBit 31).toNat:=by
 rw[tb31 h]
 by_cases c:2147483648<=n
 ·
  rw[decide_eq_true c];show _=1;omega
 ·
  rw[decide_eq_false c];show _=0;omega
theorem Zyr (a b:Nat) (ha:a<4294967296) (hb:b<4294967296):bits .and .u32 (a:Int) (b:Int)=((a &&& b:Nat):Int)/\a &&& b<4294967296:=by
 obtain⟨h1,h2⟩:=Zix a b ha hb;have hx:a &&& b<2^32:=Nat.and_lt_two_pow _ (by omega);refine⟨?_,by omega⟩
 show IntKind.u32.wrap ((BitVec.ofInt 32 (a:Int) &&& BitVec.ofInt 32 (b:Int)).toNat:Int)=_
 rw[BitVec.toNat_and,h1,h2,IntKind.wrap_u32];omega
theorem Ydj (a b:Nat) (ha:a<4294967296) (hb:b<4294967296):bits .or .u32 (a:Int) (b:Int)=((a ||| b:Nat):Int)/\a ||| b<4294967296:=by
 obtain⟨h1,h2⟩:=Zix a b ha hb;have hx:a ||| b<2^32:=Nat.or_lt_two_pow (by omega) (by omega)
 refine⟨?_,by omega⟩
 show IntKind.u32.wrap ((BitVec.ofInt 32 (a:Int) ||| BitVec.ofInt 32 (b:Int)).toNat:Int)=_
 rw[BitVec.toNat_or,h1,h2,IntKind.wrap_u32];omega
theorem Zr3 (a b:Nat) (ha:a<4294967296) (hb:b<4294967296):bits .xor .u32 (a:Int) (b:Int)=((a ^^^ b:Nat):Int)/\a ^^^ b<4294967296:=by
 obtain⟨h1,h2⟩:=Zix a b ha hb;have hx:a ^^^ b<2^32:=Nat.xor_lt_two_pow (by omega) (by omega);refine⟨?_,by omega⟩
 show IntKind.u32.wrap ((BitVec.ofInt 32 (a:Int) ^^^ BitVec.ofInt 32 (b:Int)).toNat:Int)=_
 rw[BitVec.toNat_xor,h1,h2,IntKind.wrap_u32];omega
theorem Ztv {x y b:Nat} (hx:x<4294967296) (hy:y<4294967296) (hb:b<=1) :
 bits .or .u32 (bits .and .u32 (bits .xor .u32 IntKind.u32.max (x:Int)) (y:Int)) (bits .and .u32 (bits .xor .u32 IntKind.u32.max (bits .xor .u32 (x:Int) (y:Int))) (((x:Int)-(y:Int)-(b:Int))%4294967296))/2147483648=((if x<y+b then 1 else 0:Nat):Int):=by
 obtain⟨D,hD⟩:∃ D,D=(x+8589934592-y-b)%4294967296:=⟨_,rfl⟩;have eD:((x:Int)-(y:Int)-(b:Int))%4294967296=((D:Nat):Int):=by omega
 have hDl:D<4294967296:=by omega
 have em:IntKind.u32.max=((4294967295:Nat):Int):=rfl;rw[eD,em];obtain⟨e1,l1⟩:=Zr3 4294967295 x (by omega) hx;obtain⟨e2,l2⟩:=Zyr _ y l1 hy;obtain⟨e3,l3⟩:=Zr3 x y hx hy;obtain⟨e4,l4⟩:=Zr3 4294967295 _ (by omega) l3;obtain⟨e5,l5⟩:=Zyr _ D l4 hDl;obtain⟨e6,l6⟩:=Ydj _ _ l2 l5;rw[e1,e2,e3,e4,e5,e6];have key:(((4294967295 ^^^ x) &&& y) ||| ((4294967295 ^^^ (x ^^^ y)) &&& D))/2147483648=if x<y+b then 1 else 0:=by
  rw[div31 l6,Nat.testBit_or,Nat.testBit_and,Nat.testBit_and,Nat.testBit_xor,Nat.testBit_xor,Nat.testBit_xor,tb31 hx,tb31 hy,tb31 hDl,tb31 (show 4294967295<4294967296 by omega)]
  by_cases cx:2147483648<=x<;>by_cases cy:2147483648<=y<;>by_cases cd:2147483648<=D<;>by_cases cl:x<y+b<;>simp[cx,cy,cd,cl]<;>omega
 rw[<- key];rfl
theorem Zya {w:World} {x y b:Nat} (hx:x<4294967296) (hy:y<4294967296) (hb:b<=1) :
 Calls Tryz.prog 123 #[.int .u32 x,.int .u32 y,.int .u32 b] w fun e w'=>e=.returned (.tuple #[.int .u32 ((x+8589934592-y-b)%4294967296:Nat),.int .u32 ((if x<y+b then 1 else 0):Nat)])/\w=w':=by
 obtain⟨P,hP⟩:∃ P:Ending->World->Prop,P=fun e w'=>e=.returned (.tuple #[.int .u32 ((x+8589934592-y-b)%4294967296:Nat),.int .u32 ((if x<y+b then 1 else 0):Nat)])/\w=w':=⟨_,rfl⟩
 rw[<- hP];have HP:=Hd hP;clear hP
 go_enter Tryz.func123,Tryz.ntmps123
 go_wp2_with fail;rw[HP.out];refine⟨?_,rfl⟩;have hbt:=Ztv hx hy hb;have hdf:(((x+8589934592-y-b)%4294967296:Nat):Int)=((x:Int)-(y:Int)-(b:Int))%4294967296:=by omega
 rw[hdf,<- hbt]
open Go.RowKit
theorem Zc7 (l:List Nat) (k:Nat):valD (l.take (k+1))=valD (l.take k)+4294967296^k*l.getD k 0:=by
 rcases Nat.lt_or_ge k l.length with h|h
 ·
  rw[List.take_add_one,List.getElem?_eq_getElem h,Zc3,List.length_take,Nat.min_eq_left (by omega)];simp[valD,List.getD,List.getElem?_eq_getElem h]
 ·
  rw[List.take_of_length_le h,List.take_of_length_le (by omega)];simp[List.getD,List.getElem?_eq_none h]
theorem Zk8 (l:List Nat) (k d:Nat):(l.set k d).take k=l.take k:=by
 rw[List.take_set];exact List.set_eq_of_length_le (by simp;omega)
theorem Zev {l:List Nat} (ho:OkD l) (k:Nat):l.getD k 0<4294967296:=by
 rcases Nat.lt_or_ge k l.length with h|h
 ·
  simp only[List.getD,List.getElem?_eq_getElem h];exact ho _ (List.getElem_mem h)
 ·
  simp[List.getD,List.getElem?_eq_none h]
structure SubS (dx dy:List Nat) (k br:Nat) (rs:List Nat):Prop where
 len:rs.length=dx.length
 high:∀ j,k<=j->rs.getD j 0=dx.getD j 0
 ok:OkD rs
 b1:br<=1
 val:valD (dx.take k)+4294967296^k*br=valD (rs.take k)+valD (dy.take k)
theorem SubS.start {dx dy:List Nat} (ho:OkD dx):SubS dx dy 0 0 dx:=⟨rfl,fun _ _=>rfl,ho,by omega,by simp[valD]⟩
theorem SubS.next {dx dy rs:List Nat} {k br:Nat} (h:SubS dx dy k br rs) (hox:OkD dx) (hoy:OkD dy) (hk:k<dx.length) :
 SubS dx dy (k+1) (if dx.getD k 0<dy.getD k 0+br then 1 else 0) (rs.set k ((dx.getD k 0+8589934592-dy.getD k 0-br)%4294967296)):=by
 have hd:=Zev hox k;have he:=Zev hoy k;have hb:=h.b1;refine⟨by simp[h.len],fun j hj=>?_,fun d hd2=>?_,by split<;>omega,?_⟩
 ·
  rw[Zdu,if_neg (by omega)];exact h.high j (by omega)
 ·
  rcases List.mem_or_eq_of_mem_set hd2 with e|e
  ·
   exact h.ok d e
  ·
   subst e;omega
 ·
  have hv:=h.val;obtain⟨t,ht⟩:∃ t,t=(dx.getD k 0+8589934592-dy.getD k 0-br)%4294967296:=⟨_,rfl⟩;obtain⟨b2,hb2⟩:∃ b2,b2=if dx.getD k 0<dy.getD k 0+br then 1 else 0:=⟨_,rfl⟩
  rw[<- ht,<- hb2];have eg:(rs.set k t).getD k 0=t:=by rw[Zdu,if_pos ⟨rfl,by rw[h.len];exact hk⟩]
  rw[Zc7,Zc7,Zc7,Zk8,eg];have key:t+dy.getD k 0+br=dx.getD k 0+4294967296*b2:=by
   rw[ht,hb2];split<;>omega
  have k2:=congrArg (fun z=>4294967296^k*z) key;simp only[Nat.mul_add] at k2;rw[Nat.pow_succ,Nat.mul_assoc]
  generalize 4294967296^k*t=T at *
  generalize 4294967296^k*dy.getD k 0=Y at *
  generalize 4294967296^k*dx.getD k 0=X at *
  generalize 4294967296^k*br=Z at *
  generalize 4294967296^k*(4294967296*b2)=U at *
  omega
theorem SubS.done {x y br:Nat} {rs:List Nat} (h:SubS (digD x) (digD y) (digD x).length br rs) (hle:y<=x):valD rs=x-y:=by
 have hlen:(digD y).length<=(digD x).length:=by
  refine Nat.le_of_not_lt fun hgt=>?_
  have:=Zq4 hgt;omega
 have hv:=h.val;rw[List.take_length,List.take_of_length_le (by rw[h.len];exact Nat.le_refl _),List.take_of_length_le hlen,Zdh,Zdh] at hv;have hlt:=Zoe rs h.ok;rw[h.len] at hlt;have hb:=h.b1;rcases(show br=0\/br=1 by omega) with rfl|rfl
 ·
  omega
 ·
  omega
theorem Zv1 {w:World} {v1 v2:Value} {x y:Nat} (h1:NatV w v1 x) (h2:NatV w v2 y) (hle:y<=x) :
 Calls Tryz.prog 86 #[v1,v2] w fun e w'=>(∃ v',e=.returned (.tuple #[v',.bool true])/\NatV w' v' (x-y)/\∀ q,v'.ownBlock=some q->w.heap.size<=q)/\Below w.heap.size w w':=by
 have HC:=Hd (Ze2 h1 h2);have hcz:¬ cmpZ x y<0:=by unfold cmpZ;rw[if_neg (by omega)];split<;>omega
 obtain⟨z,hz⟩:∃ z,z=cmpZ x y:=⟨_,rfl⟩;rw[<- hz] at HC hcz;have HT:Hid (∀ w1,Below w.heap.size w w1->Calls Tryz.prog 45 #[v2] w1 fun e w'=>(∃ v',e=.returned v'/\NatV w1 v' y)/\w1=w'):=Hd fun w1 hb=>Zg9 (h2.below hb)
 have HN1:Hid (∀ w1,Below w.heap.size w w1->NatV w1 v1 x):=Hd fun w1 hb=>h1.below hb
 obtain⟨P,hP⟩:∃ P:Ending->World->Prop,P=fun e w'=>(∃ v',e=.returned (.tuple #[v',.bool true])/\NatV w' v' (x-y)/\∀ q,v'.ownBlock=some q->w.heap.size<=q)/\Below w.heap.size w w':=⟨_,rfl⟩
 have HPE:=Hd hP;have HLE:=Hd hle;rw[<- hP];obtain⟨a,c,rfl,l1,l2,l3⟩:=h1;clear hz hP h2 hle
 go_enter Tryz.func86,Tryz.ntmps86
 go_wp2_with fail;refine HC.out.mono ?_;rintro e w1 ⟨rfl,hb1⟩;have HB1:=Hd hb1;have HT1:=Hd (HT.out w1 hb1);clear HC HT hb1;go_wp2_with fail;refine HT1.out.mono ?_;rintro e w' ⟨⟨v2',rfl,hv2⟩,rfl⟩;obtain⟨a2,c2,rfl,m1,m2,m3⟩:=hv2;have HU2:=Hd m3;have HU1:Hid (U32At w1 a (digD x)):=Hd (l3.below HB1.out);have hlen:=l3.len;have hlen2:=m3.len;obtain⟨dx,hdx⟩:∃ d,d=digD x:=⟨_,rfl⟩;obtain⟨dy,hdy⟩:∃ d,d=digD y:=⟨_,rfl⟩;rw[<- hdx] at HU1 hlen l1 ⊢;rw[<- hdy] at HU2 hlen2 m1 ⊢;obtain⟨L,hL⟩:∃ L,L=dx.length:=⟨_,rfl⟩;obtain⟨M,hM⟩:∃ M,M=dy.length:=⟨_,rfl⟩;rw[<- hL] at hlen l1 ⊢;rw[<- hM] at hlen2 m1 ⊢;have HL:=Hd hL;have HM:=Hd hM;have HDX:=Hd hdx;have HDY:=Hd hdy;have hs1:=HB1.out.size;clear hL hM hdx hdy m3 l3 HT1 HN1 hs1;go_upto_region 5 with (at_make;refine Zeq Zm5 rfl _ _ rfl w1.heap.size w1 _ L rfl rfl rfl (by omega) (Nat.le_refl _) (Below.refl _ _) ?_;intro g w2 hown1 hb1 hs1 hk1 hg1 hgx;clear hgx)
 have hrow1:=Zh1 hown1 (by simp);have HU3:=Hd (HU1.out.below hb1);have HU4:=Hd (HU2.out.below hb1)
 have HR1:Hid (RowU w2 g (List.replicate L 0)):=Hd (by
  unfold RowU;rw[hrow1];simp[u32V])
 clear hrow1 hown1 hk1 hs1;have HLU:=Hd (show L=(u32V dx).length by rw[Zb5];exact HL.out);go_wp2_with (refine wpList_copy_splice rfl _ _ 40 40 rfl 101 Tryz.underlying40 Znh (some ⟨g,0,none⟩) a L L L c rfl rfl g 0 (u32V (List.replicate L 0)) 101 HR1.out (u32V dx) (by rw[<- HLU.out];exact(Nat.min_self L).symm) (fun hp=>⟨rfl,HU3.out.src (by rw[Zb5] at hp;exact hp)⟩) (by rw[<- HLU.out,Zb5];simp) (Zju dx) w1.heap.size w1 hb1 hg1 ?_;intro w3 hr3 hb3)
 have HR3:Hid (RowU w3 g dx):=Hd (by
  have:_=_:=hr3;rw[Zmm (by rw[<- HLU.out,Zb5];simp)] at this;exact this)
 have HB3:=Hd hb3;have HS0:Hid (SubS dx dy 0 0 dx):=Hd (SubS.start HU1.out.ok);clear hr3 hb3 HR1 HU3 HU4 hb1
 go_loopw [7,8,9,24] (fun s7 _ _ s24 wr=>∃ (k br:Nat) (rs:List Nat),k<=L/\s24=.int .i64 (k:Int)/\s7=.int .u32 (br:Nat)/\Hid (SubS dx dy k br rs)/\Hid (RowU wr g rs)/\Hid (Below w1.heap.size w1 wr)) (fun _ _ _ s24 _=>L-(intOf s24).toNat)
 case atStart=>exact⟨0,0,dx,Nat.zero_le _,rfl,rfl,HS0,HR3,HB3⟩
 case round =>
  obtain⟨k,br,rs,hk,rfl,rfl,HS,HR,HB⟩:=hrel
  by_cases hlt:k<L
  ·
   have hkz:(k:Int)<(L:Int):=by omega
   have hrl:=HS.out.len;have ck:=HR.out.cell (k:=k) (by rw[hrl,<- HL.out];exact hlt);rw[HS.out.high k (Nat.le_refl _)] at ck;have fk:wr.frozen? ⟨g,k,none⟩=false:=by have:=HR.out;unfold RowU at this;simp[World.frozen?,this]
   have HN:=Hd (HS.out.next HU1.out.ok HU2.out.ok (by rw[<- HL.out];exact hlt));obtain⟨d,hd⟩:∃ d,d=dx.getD k 0:=⟨_,rfl⟩;obtain⟨e,he⟩:∃ e,e=dy.getD k 0:=⟨_,rfl⟩;rw[<- hd] at ck HN;rw[<- he] at HN;have hdl:d<4294967296:=by rw[hd];exact Zev HU1.out.ok k
   have hel:e<4294967296:=by rw[he];exact Zev HU2.out.ok k
   have HSB:=Hd (Zya (w:=wr) hdl hel HS.out.b1);obtain⟨t,ht⟩:∃ t,t=(d+8589934592-e-br)%4294967296:=⟨_,rfl⟩;obtain⟨b2,hb2⟩:∃ b2,b2=if d<e+br then 1 else 0:=⟨_,rfl⟩
   rw[<- ht,<- hb2] at HSB HN;have HR4:=Hd (HR.out.set (k:=k) (d:=t));have HB4:Hid (Below w1.heap.size w1 (wr.setCell ⟨g,k,none⟩ (.int .u32 ((t:Nat):Int)))):=Hd (HB.out.setCell hg1 _);have HREL:=Hd (show ∃ (k' br':Nat) (rs':List Nat),k'<=L/\(Value.int .i64 ((k:Int)+1))=.int .i64 (k':Int)/\(Value.int .u32 ((b2:Nat):Int))=.int .u32 (br':Nat)/\Hid (SubS dx dy k' br' rs')/\Hid (RowU (wr.setCell ⟨g,k,none⟩ (.int .u32 ((t:Nat):Int))) g rs')/\Hid (Below w1.heap.size w1 (wr.setCell ⟨g,k,none⟩ (.int .u32 ((t:Nat):Int)))) from ⟨k+1,b2,_,by omega,by rw[show ((k+1:Nat):Int)=(k:Int)+1 by omega],rfl,HN,HR4,HB4⟩)
   by_cases hm:k<M
   ·
    obtain⟨bb,oo,rfl,pk⟩:=HU2.out.cells k (by rw[<- HM.out];exact hm);have pk2:=(HB.out.cell (p:=⟨bb,oo+k,none⟩) (Zab pk)).trans pk;rw[<- he] at pk2;have hmz:(k:Int)<(M:Int):=by omega
    clear pk hd he ht hb2 HN HR4 HB4 HS HR HB hrl;go_wp2_with fail;refine HSB.out.mono ?_;rintro q w' ⟨rfl,rfl⟩;go_wp2_with fail;go_roundw
    case rel=>exact HREL.out
    case measure=>simp[intOf];omega
   ·
    have hmz:¬ (k:Int)<(M:Int):=by omega
    have e0:e=0:=by
     rw[he];simp[List.getD,List.getElem?_eq_none (show dy.length<=k by rw[<- HM.out];omega)]
    rw[e0] at HSB;have HSB2:Hid (Calls Tryz.prog 123 #[.int .u32 (d:Nat),.int .u32 0,.int .u32 (br:Nat)] wr fun e w'=>e=.returned (.tuple #[.int .u32 (t:Nat),.int .u32 (b2:Nat)])/\wr=w'):=HSB;clear hd he ht hb2 HN HR4 HB4 HS HR HB hrl e0 hel HSB;go_wp2_with fail;refine HSB2.out.mono ?_;rintro q w' ⟨rfl,rfl⟩;go_wp2_with fail;go_roundw
    case rel=>exact HREL.out
    case measure=>simp[intOf];omega
  ·
   obtain rfl:k=L:=by omega
   have hnlt:¬ (k:Int)<(k:Int):=by omega
   have hS:=HS.out;rw[HL.out,HDX.out,HDY.out] at hS;have hdn:=hS.done HLE.out;have hT:=Zfd (c:=k) (HR.out.at HS.out.ok (by rw[HS.out.len,<- HL.out];exact hlen)) (by rw[HS.out.len,<- HL.out];exact Nat.le_refl _) hlen;rw[hdn,HS.out.len,<- HL.out] at hT;have HT:=Hd hT;have HF:Hid (∀ v',NatV wr v' (x-y)->(∀ q,v'.ownBlock=some q->q=g)->P (.returned (.tuple #[v',.bool true])) wr):=Hd fun v' hv hq=>by rw[HPE.out];exact⟨⟨v',rfl,hv,fun q e=>by rw[hq q e];exact Nat.le_trans HB1.out.size hg1⟩,HB1.out.trans (HB.out.mono HB1.out.size)⟩
   clear hT hdn hS HS HR HB;go_wp2_with fail;refine HT.out.mono ?_;rintro e w' ⟨⟨v',rfl,hv,hq⟩,rfl⟩;have HV:=Hd (HF.out v' hv hq);clear hv hq HT HF;go_wp2_with fail;exact HV.out
open Go.RowKit
theorem Ycs (d c:Nat) (hd:d<4294967296) (hc:c<=1):bits .or .u32 (IntKind.u32.wrap ((d:Int)*2)) (c:Int)=((2*d%4294967296+c:Nat):Int):=by
 have e:IntKind.u32.wrap ((d:Int)*2)=((2*(d%2147483648):Nat):Int):=by rw[IntKind.wrap_u32];omega
 rw[e];obtain⟨h1,h2⟩:=Zix (2*(d%2147483648)) c (by omega) (by omega)
 show IntKind.u32.wrap ((BitVec.ofInt 32 ((2*(d%2147483648):Nat):Int) ||| BitVec.ofInt 32 (c:Int)).toNat:Int)=_
 rw[BitVec.toNat_or,h1,h2,show 2*(d%2147483648)=2^1*(d%2147483648) by omega,<- Nat.two_pow_add_eq_or_of_lt (by omega) (d%2147483648),IntKind.wrap_u32];omega
structure DblS (os:List Nat) (k c:Nat) (rs:List Nat):Prop where
 len:rs.length=os.length
 high:∀ j,k<=j->rs.getD j 0=os.getD j 0
 ok:OkD rs
 c1:c<=1
 val:valD (rs.take k)+4294967296^k*c=2*valD (os.take k)
theorem DblS.start {os:List Nat} (ho:OkD os):DblS os 0 0 os:=⟨rfl,fun _ _=>rfl,ho,by omega,by simp[valD]⟩
theorem DblS.next {os rs:List Nat} {k c:Nat} (h:DblS os k c rs) (ho:OkD os) (hk:k<os.length):DblS os (k+1) (os.getD k 0/2147483648) (rs.set k (2*os.getD k 0%4294967296+c)):=by
 have hd:=Zev ho k;have hc:=h.c1;refine⟨by simp[h.len],fun j hj=>?_,fun d hd2=>?_,by omega,?_⟩
 ·
  rw[Zdu,if_neg (by omega)];exact h.high j (by omega)
 ·
  rcases List.mem_or_eq_of_mem_set hd2 with e|e
  ·
   exact h.ok d e
  ·
   subst e;omega
 ·
  have hv:=h.val;obtain⟨t,ht⟩:∃ t,t=2*os.getD k 0%4294967296+c:=⟨_,rfl⟩;obtain⟨c2,hc2⟩:∃ c2,c2=os.getD k 0/2147483648:=⟨_,rfl⟩;rw[<- ht,<- hc2];have eg:(rs.set k t).getD k 0=t:=by rw[Zdu,if_pos ⟨rfl,by rw[h.len];exact hk⟩]
  rw[Zc7,Zc7,Zk8,eg];have key:t+4294967296*c2=2*os.getD k 0+c:=by rw[ht,hc2];omega
  have k2:=congrArg (fun z=>4294967296^k*z) key;simp only[Nat.mul_add] at k2;rw[Nat.pow_succ,Nat.mul_assoc];have e3:4294967296^k*(2*os.getD k 0)=2*(4294967296^k*os.getD k 0):=by rw[Nat.mul_left_comm]
  rw[e3] at k2
  generalize 4294967296^k*t=T at *
  generalize 4294967296^k*os.getD k 0=X at *
  generalize 4294967296^k*c=Z at *
  generalize 4294967296^k*(4294967296*c2)=U at *
  omega
theorem DblS.done {os rs:List Nat} {c:Nat} (h:DblS os os.length c rs) (hl:2*valD os<4294967296^os.length):valD rs=2*valD os/\c=0:=by
 have hv:=h.val;rw[List.take_length,List.take_of_length_le (by rw[h.len];exact Nat.le_refl _)] at hv;have hc:=h.c1;rcases(show c=0\/c=1 by omega) with rfl|rfl
 ·
  omega
 ·
  omega
theorem Yal (n:Nat) (ds:List Nat):valD (List.replicate n 0++ds)=4294967296^n*valD ds:=by
 rw[Zc3,Zgx _ (fun d hd=>(List.mem_replicate.1 hd).2),List.length_replicate,Nat.zero_add]
theorem Zqf (n:Nat) (ds:List Nat):splice (u32V (List.replicate (ds.length+n+1) 0)) n (u32V ds)=u32V (List.replicate n 0++ds++[0]):=by
 unfold splice u32V;simp[List.take_replicate,List.drop_replicate,show min n (ds.length+n+1)=n by omega,show ds.length+n+1-(n+ds.length)=1 by omega]
theorem Zj6 {w:World} {v:Value} {x k:Nat} (h:NatV w v x) (hx:(digD x).length<=1000) (hk:k<=4096) :
 Calls Tryz.prog 13 #[v,.int .i64 (k:Nat)] w fun e w'=>(∃ v',e=.returned v'/\NatV w' v' (x*2^k)/\∃ g q:Nat,v'=.slice (some ⟨g,0,none⟩) q q/\w.heap.size<=g)/\Below w.heap.size w w':=by
 obtain⟨a,c,rfl,l1,l2,l3⟩:=h;obtain⟨dx,hdx⟩:∃ d,d=digD x:=⟨_,rfl⟩;rw[<- hdx] at l1 l3 hx ⊢;have HU:=Hd l3;obtain⟨L,hL⟩:∃ L,L=dx.length:=⟨_,rfl⟩;rw[<- hL] at l1 hx ⊢;have HL:=Hd hL;have HDX:=Hd hdx;obtain⟨P,hP⟩:∃ P:Ending->World->Prop,P=fun e w'=>(∃ v',e=.returned v'/\NatV w' v' (x*2^k)/\∃ g q:Nat,v'=.slice (some ⟨g,0,none⟩) q q/\w.heap.size<=g)/\Below w.heap.size w w':=⟨_,rfl⟩
 have HPE:=Hd hP;rw[<- hP];obtain⟨W,hW⟩:∃ W,W=k/32:=⟨_,rfl⟩;obtain⟨r,hr⟩:∃ r,r=k%32:=⟨_,rfl⟩;have eW:(k:Int)/32=(W:Int):=by omega
 have er:(k:Int)%32=(r:Int):=by omega
 have eW2:Int.tdiv (k:Int) 32=(W:Int):=by rw[Int.tdiv_eq_ediv_of_nonneg (by omega)];exact eW
 have er2:Int.tmod (k:Int) 32=(r:Int):=by rw[Int.tmod_eq_emod_of_nonneg (by omega)];exact er
 have emx:max (k:Int) 0=(k:Int):=by omega
 have emn:min (k:Int) 4096=(k:Int):=by omega
 have hWl:W<=128:=by omega
 have HKR:=Hd (show k=32*W+r by omega);have hrl:r<32:=by omega
 clear hdx hL hP l3 hW hr
 go_enter Tryz.func13,Tryz.ntmps13
 obtain⟨M,hM⟩:∃ M,M=L+W+1:=⟨_,rfl⟩;have eM:(L:Int)+(W:Int)+1=(M:Int):=by omega
 have hMl:M<=2000:=by omega
 have hWM:(W:Int)<=(M:Int):=by omega
 have hWM2:W<=M:=by omega
 have HM:=Hd hM;clear hM;go_upto_region 4 with (at_make;refine Zeq Zm5 rfl _ _ rfl w.heap.size w _ M rfl rfl (by first|rfl|exact eM|omega) (by omega) (Nat.le_refl _) (Below.refl _ _) ?_;intro g w2 hown1 hb1 hs1 hk1 hg1 hgx;clear hgx)
 have hrow1:=Zh1 hown1 (by simp);have HU3:=Hd (HU.out.below hb1)
 have HR1:Hid (RowU w2 g (List.replicate M 0)):=Hd (by
  unfold RowU;rw[hrow1];simp[u32V])
 clear hrow1 hown1 hk1 hs1;have HLU:=Hd (show L=(u32V dx).length by rw[Zb5];exact HL.out);go_upto_region 5 with (refine wpList_copy_splice rfl _ _ 40 40 rfl 101 Tryz.underlying40 Znh (some ⟨g,W,none⟩) a (M-W) (M-W) L c rfl rfl g W (u32V (List.replicate M 0)) 101 HR1.out (u32V dx) (by rw[<- HLU.out,HM.out];exact(Nat.min_eq_left (by omega)).symm) (fun hp=>⟨rfl,HU3.out.src (by rw[Zb5] at hp;exact hp)⟩) (by rw[<- HLU.out,Zb5,List.length_replicate,HM.out];omega) (Zju dx) w.heap.size w hb1 hg1 ?_;intro w3 hr3 hb3)
 obtain⟨os0,hos0⟩:∃ o,o=List.replicate W 0++dx++[0]:=⟨_,rfl⟩;have hol:os0.length=M:=by rw[hos0,HM.out,HL.out];simp;omega
 have HR3:Hid (RowU w3 g os0):=Hd (by
  have h1:_=_:=hr3;have h2:=Zqf W dx;rw[<- HL.out,<- HM.out] at h2;rw[h2,<- hos0] at h1;exact h1)
 have hok0:OkD os0:=by
  rw[hos0];intro d hd;simp only[List.mem_append,List.mem_replicate,List.mem_singleton] at hd;rcases hd with (⟨_,rfl⟩|hd)|rfl
  ·
   omega
  ·
   exact HU.out.ok d hd
  ·
   omega
 have hv0:valD os0=4294967296^W*x:=by
  rw[hos0,List.append_assoc,Yal,Zc3,HDX.out,Zdh];simp[valD]
 have HBND:Hid (∀ j,j<32->2*(4294967296^W*x*2^j)<4294967296^M):=Hd fun j hj=>by
  have h1:=Zsc x;rw[<- HDX.out,<- HL.out] at h1;have h2:2^j*2<=4294967296:=by
   have:=Nat.pow_le_pow_right (n:=2) (by omega) (show j+1<=32 by omega);rw[Nat.pow_succ] at this;simpa using this
  rw[HM.out,Nat.pow_succ,Nat.pow_add];have h3:4294967296^W*x<4294967296^W*4294967296^L:=Nat.mul_lt_mul_of_pos_left h1 (Nat.pow_pos (by omega))
  calc 2*(4294967296^W*x*2^j)=(4294967296^W*x)*(2^j*2):=by rw[Nat.mul_comm 2,Nat.mul_assoc]
   _<=(4294967296^W*x)*4294967296:=Nat.mul_le_mul_left _ h2
   _<(4294967296^L*4294967296^W)*4294967296:=Nat.mul_lt_mul_of_pos_right (by rw[Nat.mul_comm (4294967296^L)];exact h3) (by omega)
 have HB3:=Hd hb3;have HI0:Hid (os0.length=M/\OkD os0/\valD os0=4294967296^W*x*2^0):=Hd ⟨hol,hok0,by rw[hv0];simp⟩;clear hos0 hol hok0 hv0 hr3 hb3 HR1 HU3 hb1 eM emx emn HLU;go_wp2_with fail
 go_loopw [7,8,27,31] (fun _ _ s27 _ wr=>∃ (j:Nat) (rs:List Nat),j<=r/\s27=.int .i64 (j:Int)/\Hid (rs.length=M/\OkD rs/\valD rs=4294967296^W*x*2^j)/\Hid (RowU wr g rs)/\Hid (Below w.heap.size w wr)) (fun _ _ s27 _ _=>r-(intOf s27).toNat)
 case atStart=>exact⟨0,os0,Nat.zero_le _,rfl,HI0,HR3,HB3⟩
 case round =>
  obtain⟨j,rs,hj,rfl,HI,HR,HB⟩:=hrel;obtain⟨wo,hwo⟩:∃ W',W'=wr:=⟨_,rfl⟩;subst hwo
  by_cases hlt:j<r
  ·
   have hjz:(j:Int)<(r:Int):=by omega
   have HS0:Hid (DblS rs 0 0 rs):=Hd (DblS.start HI.out.2.1);go_wp2_with fail
   go_loopw [7,8,31] (fun s7 _ s31 wr=>∃ (i cc:Nat) (qs:List Nat),i<=M/\s31=.int .i64 (i:Int)/\s7=.int .u32 (cc:Nat)/\Hid (DblS rs i cc qs)/\Hid (RowU wr g qs)/\Hid (Below w.heap.size w wr)) (fun _ _ s31 _=>M-(intOf s31).toNat)
   case atStart=>exact⟨0,0,rs,Nat.zero_le _,rfl,rfl,HS0,HR,HB⟩
   case round =>
    obtain⟨i,cc,qs,hi,rfl,rfl,HS,HR2,HB2⟩:=hrel
    by_cases hit:i<M
    ·
     have hiz:(i:Int)<(M:Int):=by omega
     have hrl2:=HS.out.len;have hlr:=HI.out.1;have ck:=HR2.out.cell (k:=i) (by rw[hrl2,hlr];exact hit);rw[HS.out.high i (Nat.le_refl _)] at ck;have fk:wr.frozen? ⟨g,i,none⟩=false:=by have:=HR2.out;unfold RowU at this;simp[World.frozen?,this]
     have HN:=Hd (HS.out.next HI.out.2.1 (by rw[hlr];exact hit));obtain⟨d,hd⟩:∃ d,d=rs.getD i 0:=⟨_,rfl⟩;rw[<- hd] at ck HN;have hdl:d<4294967296:=by rw[hd];exact Zev HI.out.2.1 i
     have hcc:=HS.out.c1;clear hrl2 hlr hd;go_upto_region 11 with fail;have ckz:wr.drew.cell? ⟨g,i,none⟩=some (.int .u32 (d:Nat)):=ck;have fkz:wr.drew.frozen? ⟨g,i,none⟩=false:=fk;have HRZ:Hid (RowU wr.drew g qs):=Hd (HR2.out.drewN 1);have HBZ:Hid (Below w.heap.size w wr.drew):=Hd (HB2.out.trans ((Zah wr 1).mono HB2.out.size));have eor:=Ycs d cc hdl hcc;obtain⟨tv,htv⟩:∃ tv,tv=2*d%4294967296+cc:=⟨_,rfl⟩;rw[<- htv] at eor HN;have ediv:((d/2147483648:Nat):Int)=(d:Int)/2147483648:=by omega
     obtain⟨wz,hwz⟩:∃ wz,wz=wr.drew:=⟨_,rfl⟩;rw[<- hwz] at ckz fkz HRZ HBZ;have HWZ:=Hd hwz;clear hwz ck fk htv;refine Zgi (fun W'=>W'.cell? ⟨g,i,none⟩=some (.int .u32 (d:Nat))) (fun ch w'=>False) 15 (fun c a w hd h=>h.elim) (by kernel_rfl) (by rw[<- HWZ.out];exact ckz) ?_;rw[<- HWZ.out];refine Zba 0 rfl rfl (by kernel_rfl) ?_;apply Exists.intro;refine⟨fun w' hw=>?_,?_⟩
     ·
      go_simp;rfl
     simp only[Zag];refine Zba 1 rfl rfl (by kernel_rfl) ?_;apply Exists.intro;refine⟨fun w' hw=>?_,?_⟩
     ·
      go_simp;rfl
     simp only[Zag];refine Zba 2 rfl rfl (by kernel_rfl) ?_;apply Exists.intro;refine⟨fun w' hw=>?_,?_⟩
     ·
      go_simp;rfl
     simp only[Zag];refine Zba 3 rfl rfl (by kernel_rfl) ?_;apply Exists.intro;refine⟨fun w' hw=>?_,?_⟩
     ·
      go_simp;rfl
     simp only[Zag];refine Zba 4 rfl rfl (by kernel_rfl) ?_;apply Exists.intro;refine⟨fun w' hw=>?_,?_⟩
     ·
      go_simp;rfl
     simp only[Zag];refine Zba 5 rfl rfl (by kernel_rfl) ?_;apply Exists.intro;refine⟨fun w' hw=>?_,?_⟩
     ·
      go_simp;rfl
     simp only[Zag];refine Zba 6 rfl rfl (by kernel_rfl) ?_;apply Exists.intro;refine⟨fun w' hw=>?_,?_⟩
     ·
      go_simp;rfl
     simp only[Zag];refine Zba 7 rfl rfl (by kernel_rfl) ?_;apply Exists.intro;refine⟨fun w' hw=>?_,?_⟩
     ·
      go_simp;rfl
     simp only[Zag];refine Zba 8 rfl rfl (by kernel_rfl) ?_;apply Exists.intro;refine⟨fun w' hw=>?_,?_⟩
     ·
      go_simp;rfl
     simp only[Zag];refine Zba 9 rfl rfl (by kernel_rfl) ?_;apply Exists.intro;refine⟨fun w' hw=>?_,?_⟩
     ·
      go_simp;rfl
     simp only[Zag];refine Zba 10 rfl rfl (by kernel_rfl) ?_;apply Exists.intro;refine⟨fun w' hw=>?_,?_⟩
     ·
      go_simp;rfl
     simp only[Zag];refine Zba 11 rfl rfl (by kernel_rfl) ?_;apply Exists.intro;refine⟨fun w' hw=>?_,?_⟩
     ·
      go_simp;rfl
     simp only[Zag];refine Zba 12 rfl rfl (by kernel_rfl) ?_;apply Exists.intro;refine⟨fun w' hw=>?_,?_⟩
     ·
      go_simp;rfl
     simp only[Zag];refine Zw7 13 rfl rfl (by kernel_rfl) ?_;apply Exists.intro;refine⟨fun w'=>?_,?_⟩
     ·
      go_simp;rfl
     simp only[Zag];refine Zba 14 rfl rfl (by kernel_rfl) ?_;apply Exists.intro;refine⟨fun w' hw=>?_,?_⟩
     ·
      go_simp;rfl
     simp only[Zag];refine Ydg ?_;refine Ztf (w':=wz.setCell ⟨g,i,none⟩ (.int .u32 ((tv:Nat):Int))) 15 rfl (by kernel_rfl) rfl rfl ?_ ?_
     ·
      go_simp
     simp only[Zag];refine Ztg (w':=wz.setCell ⟨g,i,none⟩ (.int .u32 ((tv:Nat):Int))) (v:=.int .u32 ((d/2147483648:Nat):Int)) 16 rfl (by kernel_rfl) rfl (by go_simp) ?_;simp only[Zag];refine Ya6 (by kernel_rfl) ?_;have HR4:=Hd (HRZ.out.set (k:=i) (d:=tv));have HB4:Hid (Below w.heap.size w (wz.setCell ⟨g,i,none⟩ (.int .u32 ((tv:Nat):Int)))):=Hd (HBZ.out.setCell hg1 _);clear HS HR2 HB2 HRZ HBZ ckz fkz HWZ;obtain⟨w5,hw5⟩:∃ w5,w5=wz.setCell ⟨g,i,none⟩ (.int .u32 ((tv:Nat):Int)):=⟨_,rfl⟩;rw[<- hw5] at HR4 HB4 ⊢;have HREL:=Hd (show ∃ (i' cc':Nat) (qs':List Nat),i'<=M/\(Value.int .i64 ((i:Int)+1))=.int .i64 (i':Int)/\(Value.int .u32 ((d/2147483648:Nat):Int))=.int .u32 (cc':Nat)/\Hid (DblS rs i' cc' qs')/\Hid (RowU w5 g qs')/\Hid (Below w.heap.size w w5) from ⟨i+1,d/2147483648,_,by omega,by rw[show ((i+1:Nat):Int)=(i:Int)+1 by omega],rfl,HN,HR4,HB4⟩);clear hw5 HR4 HB4 HN eor ediv;go_wp2_with fail;go_roundw
     case rel=>exact HREL.out
     case measure=>simp[intOf];omega
    ·
     obtain rfl:i=M:=by omega
     have hnlt:¬ (i:Int)<(i:Int):=by omega
     have hdn:=HS.out;rw[<- HI.out.1] at hdn;have hdd:=hdn.done (by rw[HI.out.2.2,HI.out.1];exact HBND.out j (by omega));have HREL:=Hd (show ∃ (j':Nat) (rs':List Nat),j'<=r/\(Value.int .i64 ((j:Int)+1))=.int .i64 (j':Int)/\Hid (rs'.length=i/\OkD rs'/\valD rs'=4294967296^W*x*2^j')/\Hid (RowU wr g rs')/\Hid (Below w.heap.size w wr) from ⟨j+1,qs,by omega,by rw[show ((j+1:Nat):Int)=(j:Int)+1 by omega],Hd ⟨by rw[HS.out.len];exact HI.out.1,HS.out.ok,by rw[hdd.1,HI.out.2.2,Nat.pow_succ,Nat.mul_comm 2 (4294967296^W*x*2^j),Nat.mul_assoc (4294967296^W*x)]⟩,HR2,HB2⟩);clear hdn hdd HS HR2 HB2;go_wp2_with fail;go_roundw
     case rel=>exact HREL.out
     case measure=>simp[intOf];omega
  ·
   obtain rfl:j=r:=by omega
   have hnlt:¬ (j:Int)<(j:Int):=by omega
   have hT:=Zic (c:=M) (HR.out.at HI.out.2.1 (by rw[HI.out.1];omega)) (by rw[HI.out.1];exact Nat.le_refl _) (by omega);have hval:4294967296^W*x*2^j=x*2^k:=by
    rw[HKR.out,Nat.pow_add,Nat.pow_mul,show (2:Nat)^32=4294967296 from rfl,Nat.mul_comm (4294967296^W) x,Nat.mul_assoc]
   rw[HI.out.2.2,HI.out.1,hval] at hT;have HT:=Hd hT;have HF:Hid (∀ q:Nat,NatV wo (.slice (some ⟨g,0,none⟩) q q) (x*2^k)->P (.returned (.slice (some ⟨g,0,none⟩) q q)) wo):=Hd fun q hv=>by rw[HPE.out];exact⟨⟨_,rfl,hv,g,q,rfl,hg1⟩,HB.out⟩
   clear hT hval HI HR HB;go_wp2_with fail;refine HT.out.mono ?_;rintro e w' ⟨⟨v',rfl,hv⟩,rfl⟩;have HV:=Hd (HF.out v' hv);clear hv HT HF;go_wp2_with fail;exact HV.out
theorem Zow {w:World} {v:Value} {x k:Nat} (h:NatV w v x) (hx:(digD x).length<=1000) (hk:k<=4096) :
 Calls Tryz.prog 13 #[v,.int .i64 (k:Nat)] w fun e w'=>(∃ v',e=.returned v'/\NatV w' v' (x*2^k))/\Below w.heap.size w w' :=
 (Zj6 h hx hk).mono fun _ _ ⟨⟨v,h1,h2,_⟩,h3⟩=>⟨⟨v,h1,h2⟩,h3⟩
open Go.RowKit
structure Zq0 (w:World) (a:Option Addr) (xs:List Nat):Prop where
 len:xs.length<=1000
 cells:∀ k,k<xs.length->∃ b off v,a=some ⟨b,off,none⟩/\w.cell? ⟨b,off+k,none⟩=some v/\NatV w v (xs.getD k 0)
theorem Zq0.below {w w':World} {a:Option Addr} {xs:List Nat} (h:Zq0 w a xs) (hb:Below w.heap.size w w'):Zq0 w' a xs :=
 ⟨h.len,fun k hk=>by
  obtain⟨b,off,v,h1,h2,h3⟩:=h.cells k hk;exact⟨b,off,v,h1,(hb.cell (p:=⟨b,off+k,none⟩) (Zab h2)).trans h2,h3.below hb⟩⟩
structure SumS (os dy:List Nat) (k c:Nat) (rs:List Nat):Prop where
 len:rs.length=os.length
 high:∀ j,k<=j->rs.getD j 0=os.getD j 0
 ok:OkD rs
 c1:c<=1
 val:valD (rs.take k)+4294967296^k*c=valD (os.take k)+valD (dy.take k)
theorem SumS.start {os dy:List Nat} (ho:OkD os):SumS os dy 0 0 os:=⟨rfl,fun _ _=>rfl,ho,by omega,by simp[valD]⟩
theorem SumS.next {os dy rs:List Nat} {k c:Nat} (h:SumS os dy k c rs) (ho:OkD os) (hoy:OkD dy) (hk:k<os.length) :
 SumS os dy (k+1) ((os.getD k 0+dy.getD k 0+c)/4294967296) (rs.set k ((os.getD k 0+dy.getD k 0+c)%4294967296)):=by
 have hd:=Zev ho k;have he:=Zev hoy k;have hc:=h.c1;refine⟨by simp[h.len],fun j hj=>?_,fun d hd2=>?_,by omega,?_⟩
 ·
  rw[Zdu,if_neg (by omega)];exact h.high j (by omega)
 ·
  rcases List.mem_or_eq_of_mem_set hd2 with e|e
  ·
   exact h.ok d e
  ·
   subst e;omega
 ·
  have hv:=h.val;obtain⟨t,ht⟩:∃ t,t=(os.getD k 0+dy.getD k 0+c)%4294967296:=⟨_,rfl⟩;obtain⟨c2,hc2⟩:∃ c2,c2=(os.getD k 0+dy.getD k 0+c)/4294967296:=⟨_,rfl⟩;rw[<- ht,<- hc2];have eg:(rs.set k t).getD k 0=t:=by rw[Zdu,if_pos ⟨rfl,by rw[h.len];exact hk⟩]
  rw[Zc7,Zc7,Zc7,Zk8,eg];have key:t+4294967296*c2=os.getD k 0+dy.getD k 0+c:=by rw[ht,hc2];omega
  have k2:=congrArg (fun z=>4294967296^k*z) key;simp only[Nat.mul_add] at k2;rw[Nat.pow_succ,Nat.mul_assoc]
  generalize 4294967296^k*t=T at *
  generalize 4294967296^k*os.getD k 0=X at *
  generalize 4294967296^k*dy.getD k 0=Y at *
  generalize 4294967296^k*c=Z at *
  generalize 4294967296^k*(4294967296*c2)=U at *
  omega
theorem SumS.done {os dy rs:List Nat} {c:Nat} (h:SumS os dy os.length c rs) (hy:dy.length<=os.length) (hl:valD os+valD dy<4294967296^os.length):valD rs=valD os+valD dy:=by
 have hv:=h.val;rw[List.take_length,List.take_of_length_le (by rw[h.len];exact Nat.le_refl _),List.take_of_length_le hy] at hv;have hc:=h.c1;rcases(show c=0\/c=1 by omega) with rfl|rfl
 ·
  omega
 ·
  omega
theorem Zo3 {x:Nat} (h:x<4294967296^1000):(digD x).length<=1000:=Nat.le_of_not_lt fun hgt=>by
 have:=Yav x 1000 hgt;omega
theorem Ydi {x y a b m:Nat} (hx:x<4294967296^a) (hy:y<4294967296^b) (ha:a+1<=m) (hb:b+1<=m):x+y<4294967296^m:=by
 obtain⟨n,rfl⟩:∃ n,m=n+1:=⟨m-1,by omega⟩;have h1:=Nat.pow_le_pow_right (n:=4294967296) (by omega) (show a<=n by omega);have h2:=Nat.pow_le_pow_right (n:=4294967296) (by omega) (show b<=n by omega);rw[Nat.pow_succ]
 generalize 4294967296^n=p at *
 omega
theorem Zuz (m:Nat) (ds:List Nat):splice (u32V (List.replicate (ds.length+m) 0)) 0 (u32V ds)=u32V (ds++List.replicate m 0):=by
 unfold splice u32V;simp
theorem Zhx (w:World):NatV w (.slice none 0 0) 0:=by
 refine⟨none,0,by rw[Zbl];rfl,by rw[Zbl];exact Nat.le_refl _,by omega,⟨by rw[Zbl];exact Nat.zero_le _,?_,fun k hk=>?_⟩⟩
 ·
  rw[Zbl];intro d hd;cases hd
 ·
  rw[Zbl] at hk;cases hk
theorem Zrw (xs:List Nat) (k:Nat):(xs.take k).sum<=xs.sum:=by
 have h:=List.take_append_drop k xs;have:xs.sum=(xs.take k).sum+(xs.drop k).sum:=by rw[<- List.sum_append,h]
 omega
theorem Zh9 {xs:List Nat} {k:Nat} (hk:k<xs.length):(xs.take (k+1)).sum=(xs.take k).sum+xs.getD k 0:=by
 rw[List.take_add_one,List.getElem?_eq_getElem hk,List.sum_append];simp[List.getD,List.getElem?_eq_getElem hk]
theorem Zv0 {w:World} {a:Option Addr} {c:Nat} {xs:List Nat} (h:Zq0 w a xs) (hs:xs.sum<4294967296^1000) :
 Calls Tryz.prog 12 #[.slice a xs.length c] w fun e w'=>(∃ v',e=.returned v'/\NatV w' v' xs.sum/\∀ q,v'.ownBlock=some q->w.heap.size<=q)/\Below w.heap.size w w':=by
 have HA:=Hd h;have HSM:=Hd hs;have hlen:=h.len;obtain⟨P,hP⟩:∃ P:Ending->World->Prop,P=fun e w'=>(∃ v',e=.returned v'/\NatV w' v' xs.sum/\∀ q,v'.ownBlock=some q->w.heap.size<=q)/\Below w.heap.size w w':=⟨_,rfl⟩
 have HPE:=Hd hP;rw[<- hP];obtain⟨n,hn⟩:∃ n,n=xs.length:=⟨_,rfl⟩;rw[<- hn] at hlen ⊢;have HN:=Hd hn;have HZ:Hid (NatV w (.slice none 0 0) (xs.take 0).sum/\∀ q,(Value.slice none 0 0).ownBlock=some q->w.heap.size<=q):=Hd ⟨by simpa using Zhx w,fun q e=>by cases e⟩;have HB0:Hid (Below w.heap.size w w):=Hd (Below.refl _ _);clear hP h hs hn
 go_enter Tryz.func12,Tryz.ntmps12
 go_wp2_with fail
 go_loopw [3,5,6,7,8,9,12,28] (fun s3 _ _ _ _ _ s12 _ wr=>∃ k:Nat,k<=n/\s12=.int .i64 (k:Int)/\Hid (NatV wr s3 (xs.take k).sum/\∀ q,s3.ownBlock=some q->w.heap.size<=q)/\Hid (Below w.heap.size w wr)) (fun _ _ _ _ _ _ s12 _ _=>n-(intOf s12).toNat)
 case atStart=>exact⟨0,Nat.zero_le _,rfl,HZ,HB0⟩
 case round =>
  obtain⟨k,hk,rfl,HV,HB⟩:=hrel;obtain⟨wo,hwo⟩:∃ W',W'=wr:=⟨_,rfl⟩;subst hwo
  by_cases hlt:k<n
  ·
   have hkz:(k:Int)<(n:Int):=by omega
   obtain⟨b,off,v,rfl,hc,hv⟩:=(HA.out.below HB.out).cells k (by rw[<- HN.out];exact hlt);have hxy:(xs.take k).sum+xs.getD k 0<4294967296^1000:=by
    rw[<- Zh9 (by rw[<- HN.out];exact hlt)];exact Nat.lt_of_le_of_lt (Zrw _ _) HSM.out
   have HST:=Hd (Zh9 (xs:=xs) (k:=k) (by rw[<- HN.out];exact hlt));obtain⟨x,hx⟩:∃ x,x=(xs.take k).sum:=⟨_,rfl⟩;obtain⟨y,hy⟩:∃ y,y=xs.getD k 0:=⟨_,rfl⟩;have hvx:=HV.out.1;rw[<- hx] at hvx hxy HST;rw[<- hy] at hv hxy HST;obtain⟨a1,c1,rfl,l1,l2,l3⟩:=hvx;obtain⟨a2,c2,rfl,m1,m2,m3⟩:=hv;have q1:=Zo3 (x:=x) (by omega);have q2:=Zo3 (x:=y) (by omega);have HVX:=Hd (Zdh x);have HVY:=Hd (Zdh y);have HDX:=Hd (Zsc x);have HDY:=Hd (Zsc y);obtain⟨dx,hdx⟩:∃ d,d=digD x:=⟨_,rfl⟩;obtain⟨dy,hdy⟩:∃ d,d=digD y:=⟨_,rfl⟩;rw[<- hdx] at l1 l3 q1 HVX HDX ⊢;rw[<- hdy] at m1 m3 q2 HVY HDY hc;obtain⟨L,hL⟩:∃ L,L=dx.length:=⟨_,rfl⟩;obtain⟨M,hM⟩:∃ M,M=dy.length:=⟨_,rfl⟩;rw[<- hL] at l1 q1 HDX ⊢;rw[<- hM] at m1 q2 HDY hc;have HL:=Hd hL;have HM:=Hd hM;have HU1:=Hd l3;have HU2:=Hd m3;obtain⟨T,hT⟩:∃ T,T=(max L M)+1:=⟨_,rfl⟩;have eT:max (L:Int) (M:Int)+1=(T:Int):=by omega
   have hTl:T<=1001:=by omega
   have hLT:L+1<=T:=by omega
   have hMT:M+1<=T:=by omega
   clear hx hy hdx hdy hL hM l3 m3 hT HV hxy;have hszo:=HB.out.size;go_upto_region 6 with (at_make;refine Zeq Zm5 rfl _ _ rfl wo.heap.size wo _ T rfl rfl (by first|exact eT|omega) (by omega) (Nat.le_refl _) (Below.refl _ _) ?_;intro g w2 hown1 hb1 hs1 hk1 hg1 hgx;clear hgx)
   have hrow1:=Zh1 hown1 (by simp);have HU3:=Hd (HU1.out.below hb1);have HU4:=Hd (HU2.out.below hb1)
   have HR1:Hid (RowU w2 g (List.replicate T 0)):=Hd (by
    unfold RowU;rw[hrow1];simp[u32V])
   clear hrow1 hown1 hk1 hs1;have HLU:=Hd (show L=(u32V dx).length by rw[Zb5];exact HL.out);obtain⟨os0,hos0⟩:∃ o,o=dx++List.replicate (T-L) 0:=⟨_,rfl⟩;have hol:os0.length=T:=by rw[hos0];simp[<- HL.out];omega
   have hok0:OkD os0:=by
    rw[hos0];intro d hd;rcases List.mem_append.1 hd with hd|hd
    ·
     exact HU1.out.ok d hd
    ·
     rw[(List.mem_replicate.1 hd).2];omega
   have hv0:valD os0=x:=by
    rw[hos0,Zc3,Zgx _ (fun d hd=>(List.mem_replicate.1 hd).2),HVX.out];simp
   have HOS:Hid (splice (u32V (List.replicate T 0)) 0 (u32V dx)=u32V os0):=Hd (by
    rw[hos0,<- Zuz,<- HL.out,show L+(T-L)=T by omega])
   have HO:=Hd (show os0.length=T/\OkD os0/\valD os0=x from ⟨hol,hok0,hv0⟩);clear hos0 hol hok0 hv0;go_upto_region 7 with (refine wpList_copy_splice rfl _ _ 40 40 rfl 101 Tryz.underlying40 Znh (some ⟨g,0,none⟩) a1 T T L c1 rfl rfl g 0 (u32V (List.replicate T 0)) 101 HR1.out (u32V dx) (by rw[<- HLU.out];exact(Nat.min_eq_left (by omega)).symm) (fun hp=>⟨rfl,HU3.out.src (by rw[Zb5] at hp;exact hp)⟩) (by rw[<- HLU.out,Zb5];simp;omega) (Zju dx) wo.heap.size wo hb1 hg1 ?_;intro w3 hr3 hb3)
   have HR3:Hid (RowU w3 g os0):=Hd (by
    have:_=_:=hr3;rw[HOS.out] at this;exact this)
   have HB3:=Hd hb3;have HS0:Hid (SumS os0 dy 0 0 os0):=Hd (SumS.start HO.out.2.1);clear hr3 hb3 HR1 HU3 HU4 hb1 HLU
   generalize (if L<M then (M:Int) else (L:Int))=mx
   go_wp2_with fail
   go_loopw [7,8,9,28] (fun s7 _ _ s28 wr=>∃ (j cc:Nat) (rs:List Nat),j<=T/\s28=.int .i64 (j:Int)/\s7=.int .u32 (cc:Nat)/\Hid (SumS os0 dy j cc rs)/\Hid (RowU wr g rs)/\Hid (Below wo.heap.size wo wr)) (fun _ _ _ s28 _=>T-(intOf s28).toNat)
   case atStart=>exact⟨0,0,os0,Nat.zero_le _,rfl,rfl,HS0,HR3,HB3⟩
   case round =>
    obtain⟨j,cc,rs,hj,rfl,rfl,HS,HR,HB2⟩:=hrel
    by_cases hjt:j<T
    ·
     have hjz:(j:Int)<(T:Int):=by omega
     have hrl:=HS.out.len;have ck:=HR.out.cell (k:=j) (by rw[hrl,HO.out.1];exact hjt);rw[HS.out.high j (Nat.le_refl _)] at ck;have fk:wr.frozen? ⟨g,j,none⟩=false:=by have:=HR.out;unfold RowU at this;simp[World.frozen?,this]
     have HNX:=Hd (HS.out.next HO.out.2.1 HU2.out.ok (by rw[HO.out.1];exact hjt));obtain⟨d,hd⟩:∃ d,d=os0.getD j 0:=⟨_,rfl⟩;obtain⟨e,he⟩:∃ e,e=dy.getD j 0:=⟨_,rfl⟩;rw[<- hd] at ck HNX;rw[<- he] at HNX;have hdl:d<4294967296:=by rw[hd];exact Zev HO.out.2.1 j
     have hel:e<4294967296:=by rw[he];exact Zev HU2.out.ok j
     have HSB:=Hd (Zvk (w:=wr) hdl hel HS.out.c1);obtain⟨t,ht⟩:∃ t,t=(d+e+cc)%4294967296:=⟨_,rfl⟩;obtain⟨b2,hb2⟩:∃ b2,b2=(d+e+cc)/4294967296:=⟨_,rfl⟩;rw[<- ht,<- hb2] at HSB HNX;have HR4:=Hd (HR.out.set (k:=j) (d:=t));have HB4:Hid (Below wo.heap.size wo (wr.setCell ⟨g,j,none⟩ (.int .u32 ((t:Nat):Int)))):=Hd (HB2.out.setCell hg1 _);have HREL:=Hd (show ∃ (j' cc':Nat) (rs':List Nat),j'<=T/\(Value.int .i64 ((j:Int)+1))=.int .i64 (j':Int)/\(Value.int .u32 ((b2:Nat):Int))=.int .u32 (cc':Nat)/\Hid (SumS os0 dy j' cc' rs')/\Hid (RowU (wr.setCell ⟨g,j,none⟩ (.int .u32 ((t:Nat):Int))) g rs')/\Hid (Below wo.heap.size wo (wr.setCell ⟨g,j,none⟩ (.int .u32 ((t:Nat):Int)))) from ⟨j+1,b2,_,by omega,by rw[show ((j+1:Nat):Int)=(j:Int)+1 by omega],rfl,HNX,HR4,HB4⟩)
     by_cases hm:j<M
     ·
      obtain⟨bb,oo,rfl,pk⟩:=HU2.out.cells j (by rw[<- HM.out];exact hm);have pk2:=(HB2.out.cell (p:=⟨bb,oo+j,none⟩) (Zab pk)).trans pk;rw[<- he] at pk2;have hmz:(j:Int)<(M:Int):=by omega
      clear pk hd he ht hb2 HNX HR4 HB4 HS HR HB2 hrl;go_wp2_with fail;refine HSB.out.mono ?_;rintro q w' ⟨rfl,rfl⟩;go_wp2_with fail;go_roundw
      case rel=>exact HREL.out
      case measure=>simp[intOf];omega
     ·
      have hmz:¬ (j:Int)<(M:Int):=by omega
      have e0:e=0:=by
       rw[he];simp[List.getD,List.getElem?_eq_none (show dy.length<=j by rw[<- HM.out];omega)]
      rw[e0] at HSB;have HSB2:Hid (Calls Tryz.prog 46 #[.int .u32 (d:Nat),.int .u32 0,.int .u32 (cc:Nat)] wr fun e w'=>e=.returned (.tuple #[.int .u32 (t:Nat),.int .u32 (b2:Nat)])/\wr=w'):=HSB;clear hd he ht hb2 HNX HR4 HB4 HS HR HB2 hrl e0 hel HSB;go_wp2_with fail;refine HSB2.out.mono ?_;rintro q w' ⟨rfl,rfl⟩;go_wp2_with fail;go_roundw
      case rel=>exact HREL.out
      case measure=>simp[intOf];omega
    ·
     obtain rfl:j=T:=by omega
     have hnlt:¬ (j:Int)<(j:Int):=by omega
     have hS:=HS.out;rw[<- HO.out.1] at hS;have hdn:=hS.done (by rw[<- HM.out,HO.out.1];omega) (by rw[HO.out.1,HO.out.2.2,HVY.out];exact Ydi HDX.out HDY.out hLT hMT);rw[HO.out.2.2,HVY.out,<- HST.out] at hdn;have hT:=Zfd (c:=j) (HR.out.at HS.out.ok (by rw[HS.out.len,HO.out.1];omega)) (by rw[HS.out.len,HO.out.1];exact Nat.le_refl _) (by omega);rw[hdn,HS.out.len,HO.out.1] at hT;have HT:=Hd hT;have HBF:=Hd (HB.out.trans (HB2.out.mono HB.out.size));clear hT hdn hS HS HR HB2;go_wp2_with fail;refine HT.out.mono ?_;rintro e w' ⟨⟨v',rfl,hv,hq⟩,rfl⟩;have HV2:Hid (NatV wr v' (xs.take (k+1)).sum/\∀ q,v'.ownBlock=some q->w.heap.size<=q):=Hd ⟨hv,fun q e=>by rw[hq q e];exact Nat.le_trans hszo hg1⟩;clear hv hq HT;go_wp2_with fail;go_roundw
     case rel=>exact⟨k+1,by omega,by rw[show ((k+1:Nat):Int)=(k:Int)+1 by omega],HV2,HBF⟩
     case measure=>simp[intOf];omega
  ·
   obtain rfl:k=n:=by omega
   have hnlt:¬ (k:Int)<(k:Int):=by omega
   have HF:Hid (P (.returned u3) wo):=Hd (by
    rw[HPE.out];refine⟨⟨_,rfl,?_,HV.out.2⟩,HB.out⟩;have:=HV.out.1;rw[HN.out,List.take_length] at this;exact this)
   clear HV HB;go_wp2_with fail;exact HF.out
theorem Zlx {w:World} {a:Option Addr} {c:Nat} {xs:List Nat} (h:Zq0 w a xs) (hs:xs.sum<4294967296^1000) :
 Calls Tryz.prog 12 #[.slice a xs.length c] w fun e w'=>(∃ v',e=.returned v'/\NatV w' v' xs.sum)/\Below w.heap.size w w' :=
 (Zv0 h hs).mono fun _ _ ⟨⟨v,h1,h2,_⟩,h3⟩=>⟨⟨v,h1,h2⟩,h3⟩
open Go.RowKit
theorem Zf0 (args:Array Value) (w:World):(callFunc 84 args).run Tryz.prog w=.ok (.enter 84 args) w:=enters_of Tryz.func84 (by kernel_rfl) rfl args w
theorem kEdS:Zld Tryz.prog 83 (Value.int .i64):=Zkl Tryz.underlying83
theorem Zq3 {w:World} {b k:Nat} {v:Value} {es:Array MapEntry} {c:Nat} (h:w.heap[b]?=some (.map es c)) (hc:w.cell? ⟨b,k,none⟩=some v):False:=by
 simp[World.cell?,h] at hc
theorem NatV.other {κ:Type} [DecidableEq κ] {w w':World} {v:Value} {x b:Nat} {enc:κ->Value} {l:List (κ×Value)} (h:NatV w v x) (hm:Zaz w b enc l) (hw:Wr (· = b) w w'):NatV w' v x:=by
 obtain⟨a,c,h1,h2,h3,h4⟩:=h;obtain⟨es,ck,hb,_⟩:=hm.ex;refine⟨a,c,h1,h2,h3,⟨h4.len,h4.ok,fun k hk=>?_⟩⟩;obtain⟨b',off,e,hc⟩:=h4.cells k hk;refine⟨b',off,e,(World.cell?_of_block (w:=w) (a:=⟨b',off+k,none⟩) (hw.keep b' (Zab hc) fun e2=>?_)).trans hc⟩;have e2:b'=b:=e2;subst e2;exact Zq3 hb hc
def Zg6 (W:World) (fv:Value) (fx:Nat->Option Bool):Prop :=
 (fv=.map none/\∀ v,fx v=none)\/∃ ft l,fv=.map (some ft)/\Zaz W ft (Value.int .i64) l/\∀ v:Nat,getL l (v:Int)=(fx v).map Value.bool
theorem Zg6.other {κ:Type} [DecidableEq κ] {W W':World} {fv:Value} {fx:Nat->Option Bool} {b:Nat} (h:Zg6 W fv fx) (hne:fv ≠ .map (some b)) (hw:Wr (· = b) W W'):Zg6 W' fv fx:=by
 rcases h with h|⟨ft,l,h1,h2,h3⟩
 ·
  exact .inl h
 ·
  exact .inr ⟨ft,l,h1,h2.keepB (hw.keep ft h2.lt (fun e=>hne (by rw[h1,e]))),h3⟩
theorem Zg6.below {W W':World} {fv:Value} {fx:Nat->Option Bool} (h:Zg6 W fv fx) (hb:Below W.heap.size W W'):Zg6 W' fv fx:=by
 rcases h with h|⟨ft,l,h1,h2,h3⟩
 ·
  exact .inl h
 ·
  exact .inr ⟨ft,l,h1,h2.below hb,h3⟩
theorem Zg6.lookup {W:World} {fv:Value} {fx:Nat->Option Bool} (h:Zg6 W fv fx) (v:Nat) :
 (Instr.lookup 97 fv (.int .i64 (v:Nat)) true).run Tryz.prog W=.ok (.tuple #[.bool ((fx v).getD false),.bool (fx v).isSome]) W:=by
 rcases h with ⟨rfl,h⟩|⟨ft,l,rfl,h2,h3⟩
 ·
  rw[h v];have hu:=Tryz.underlying97;have hz:=Tryz.zeroValue4 W;have hk:=Zkk.check W true (v:Int);have hf:=Zkk.find W (v:Int) [] [] rfl;simp[Instr.lookup,run_underlying hu,hz,hk,hf,Zbw,Result.andThen]
 ·
  rw[h2.lookup Zkk Tryz.underlying97 Tryz.zeroValue4 (v:Int) true,h3 v];cases fx v<;>rfl
structure TtC where
 ba:Nat
 bt:Nat
 bk:Nat
 bx:Nat
 bf:Nat
 kt:Nat
 xb:Nat
def TtC.caps (c:TtC):Array Value:=#[.pointer (some ⟨c.ba,0,none⟩),.pointer (some ⟨c.bt,0,none⟩),.pointer (some ⟨c.bk,0,none⟩),.pointer (some ⟨c.bx,0,none⟩),.pointer (some ⟨c.bf,0,none⟩)]
structure TtS (F:Phi) (c:TtC) (mb:Nat) (o:Own) (m:ManD) (V:Nat->BF) (fv:Value) (fx:Nat->Option Bool) (W:World):Prop where
 is:Zd0 F o W mb m
 lt:Zai o W
 ok:Zaj m.d V
 n64:m.d.vars.length<=64
 x:Zer o W c.xb mb
 ba:∃ va,W.cell? ⟨c.ba,0,none⟩=some va/\NatV W va (2^m.d.vars.length)/\∀ q,va.ownBlock=some q->o q=none
 bt:W.cell? ⟨c.bt,0,none⟩=some (.func (.func 84) #[] c.caps)
 bk:W.cell? ⟨c.bk,0,none⟩=some (.map (some c.kt))
 bx:W.cell? ⟨c.bx,0,none⟩=some (.pointer (some ⟨c.xb,0,none⟩))
 bf:W.cell? ⟨c.bf,0,none⟩=some fv
 fix:Zg6 W fv fx
 fne:fv ≠ .map (some c.kt)
 map:∃ l,Zaz W c.kt (Value.int .i64) l/\∀ p∈l,∃ e:Nat,p.1=(e:Int)/\NatV W p.2 (totN m.d.vars.length fx (ef V e))/\∀ q,p.2.ownBlock=some q->o q=none
 own:o c.kt=none
 ne:c.kt≠c.ba/\c.kt≠c.bt/\c.kt≠c.bk/\c.kt≠c.bx/\c.kt≠c.bf/\c.kt≠c.xb
section
variable {F:Phi} {c:TtC} {mb:Nat} {o:Own} {m:ManD} {V:Nat->BF} {fv:Value} {fx:Nat->Option Bool} {W W':World}
theorem TtS.go (h:TtS F c mb o m V fv fx W) (hx:Wr (· = c.kt) W W') (hmap:∃ l,Zaz W' c.kt (Value.int .i64) l/\∀ p∈l,∃ e:Nat,p.1=(e:Int)/\NatV W' p.2 (totN m.d.vars.length fx (ef V e))/\∀ q,p.2.ownBlock=some q->o q=none):TtS F c mb o m V fv fx W':=by
 have hc:∀ {b k:Nat} {v:Value},W.cell? ⟨b,k,none⟩=some v->c.kt≠b->W'.cell? ⟨b,k,none⟩=some v:=fun h h1=>(World.cell?_of_block (w:=W) (hx.keep _ (Zab h) (fun e=>h1 e.symm))).trans h
 obtain⟨n1,n2,n3,n4,n5,n6⟩:=h.ne;obtain⟨va,a1,a2,a3⟩:=h.ba;obtain⟨l,l1,l2⟩:=h.map;exact⟨h.is.other h.lt hx (fun k _ e=>by subst e;exact h.own),h.lt.mono hx.size,h.ok,h.n64,⟨hc h.x.cell n6,h.x.own⟩,⟨va,hc a1 n1,a2.other l1 hx,a3⟩,hc h.bt n2,hc h.bk n3,hc h.bx n4,hc h.bf n5,Zg6.other (κ:=Int) h.fix h.fne hx,h.fne,hmap,h.own,h.ne⟩
theorem TtS.below (h:TtS F c mb o m V fv fx W) (hb:Below W.heap.size W W'):TtS F c mb o m V fv fx W':=by
 obtain⟨l,l1,l2⟩:=h.map;refine h.go (Wr.of_below hb _) ⟨l,l1.below hb,fun p hp=>?_⟩;obtain⟨e,e1,e2,e3⟩:=l2 p hp;exact⟨e,e1,e2.below hb,e3⟩
theorem TtS.get (h:TtS F c mb o m V fv fx W) (e:Nat):∃ r:Option Value,(∀ v,r=some v->NatV W v (totN m.d.vars.length fx (ef V e))/\∀ q,v.ownBlock=some q->o q=none) /\
 (Instr.lookup 151 (.map (some c.kt)) (.int .i64 (e:Nat)) true).run Tryz.prog W=.ok (.tuple #[r.getD (.slice none 0 0),.bool r.isSome]) W:=by
 obtain⟨l,l1,l2⟩:=h.map;refine⟨getL l (e:Int),fun v hv=>?_,?_⟩
 ·
  obtain⟨e',q1,q2,q3⟩:=l2 _ (Zc2 hv);have:e=e':=Int.ofNat.inj q1;subst this;exact⟨q2,q3⟩
 ·
  have:=l1.lookup kEdS Tryz.underlying151 Tryz.zeroValue40 (e:Int) true;rw[this];cases getL l (e:Int)<;>rfl
theorem TtS.put (h:TtS F c mb o m V fv fx W) (e:Nat) {v:Value} (hv:NatV W v (totN m.d.vars.length fx (ef V e))) (hq:∀ q,v.ownBlock=some q->o q=none) :
 ∃ w',(Instr.mapUpdate 151 (.map (some c.kt)) (.int .i64 (e:Nat)) v).run Tryz.prog W=.ok () w'/\Wr (· = c.kt) W w'/\TtS F c mb o m V fv fx w'/\NatV w' v (totN m.d.vars.length fx (ef V e)):=by
 obtain⟨l,l1,l2⟩:=h.map;obtain⟨w',r1,r2,r3⟩:=l1.update kEdS Tryz.underlying151 (e:Int) v;have hw:Wr (· = c.kt) W w':=Wr.of_grown r3 _ (fun k e=>by cases e;rfl);refine⟨w',r1,hw,h.go hw ⟨_,r2,fun p hp=>?_⟩,hv.other l1 hw⟩;have hg:=Zcg r2.nodup (k:=p.1) (v:=p.2) hp;rw[Zki l1.nodup] at hg
 by_cases ek:p.1=(e:Int)
 ·
  rw[if_pos ek] at hg;refine⟨e,ek,?_⟩;rw[<- Option.some.inj hg];exact⟨hv.other l1 hw,hq⟩
 ·
  rw[if_neg ek] at hg;obtain⟨e',q1,q2,q3⟩:=l2 _ (Zc2 hg);exact⟨e',q1,q2.other l1 hw,q3⟩
def TtR (F:Phi) (c:TtC) (mb:Nat) (o:Own) (m:ManD) (V:Nat->BF) (fv:Value) (fx:Nat->Option Bool) (g:Nat) (W:World) (x:Ending) (w':World):Prop :=
 ∃ v,x=.returned v/\Wr (· = c.kt) W w'/\TtS F c mb o m V fv fx w'/\NatV w' v (totN m.d.vars.length fx (ef V g))/\∀ q,v.ownBlock=some q->o q=none
end
open Go.RowKit
section
variable {F:Phi} {c:TtC} {mb:Nat} {o:Own} {m:ManD} {V:Nat->BF} {fv:Value} {fx:Nat->Option Bool} {W:World}
theorem Ycp (h:TtS F c mb o m V fv fx W):Calls Tryz.prog 84 (#[.int .i64 0]++c.caps) W (TtR F c mb o m V fv fx 0 W):=by
 obtain⟨ba,bt,bk,bx,bf,kt,xb⟩:=c;obtain⟨va,cba,hva,hvq⟩:=h.ba;have HF:Hid (TtR F ⟨ba,bt,bk,bx,bf,kt,xb⟩ mb o m V fv fx 0 W (.returned va) W):=Hd ⟨va,rfl,Wr.refl _ _,h,by rw[h.ok.dag.ef0,Zyk];exact hva,hvq⟩;unfold TtC.caps;obtain⟨P,hP⟩:∃ P,P=TtR F ⟨ba,bt,bk,bx,bf,kt,xb⟩ mb o m V fv fx 0 W:=⟨_,rfl⟩;rw[<- hP] at HF ⊢;clear hP h hva hvq
 show Calls _ _ #[_,_,_,_,_,_] _ _
 go_enter Tryz.func84,Tryz.ntmps84
 go_wp2_with fail
 first|exact HF.out|(go_ret;exact HF.out)
theorem Yco {g:Nat} (hg:okE (Zaa m.d) g) (hodd:g%2=1) (IH:∀ W,TtS F c mb o m V fv fx W->Calls Tryz.prog 84 (#[.int .i64 (enot g:Nat)]++c.caps) W (TtR F c mb o m V fv fx (enot g) W)) (h:TtS F c mb o m V fv fx W) :
 Calls Tryz.prog 84 (#[.int .i64 (g:Nat)]++c.caps) W (TtR F c mb o m V fv fx g W):=by
 obtain⟨ba,bt,bk,bx,bf,kt,xb⟩:=c;have hlt:=Zgl (K:=fun _ _=>F) (V:=V) h.is hg;have hg0:¬ ((g:Nat):Int)=0:=by omega
 have HNEG:Hid (Calls Tryz.prog 85 #[.int .i64 g] W fun x w'=>x=.returned (.bool true)/\W=w'):=Hd (by
  have:=Zf9 g W hlt
  rwa [show eneg g=true by simp[eneg,hodd]] at this)
 obtain⟨wz,hwz⟩:∃ wz,wz=W.drew:=⟨_,rfl⟩;have hbz:Below W.heap.size W wz:=by rw[hwz];exact Zah W 1
 have hz:=h.below hbz;have HWZ:=Hd hwz;have HNOT:Hid (Calls Tryz.prog 40 #[.int .i64 g] wz fun x w'=>x=.returned (.int .i64 (enot g:Nat))/\wz=w'):=Hd (Zno g wz hlt);obtain⟨va,cba,hva,-⟩:=hz.ba;have cbt:=hz.bt;unfold TtC.caps at cbt;have HI:=Hd (IH wz hz);obtain⟨N,hN⟩:∃ N,N=m.d.vars.length:=⟨_,rfl⟩;have hle:totN N fx (ef V (enot g))<=2^N:=Zyi _ _ _;have hval:2^N-totN N fx (ef V (enot g))=totN N fx (ef V g):=by
  have:=Yad N fx (ef V (enot g));rw[<- this];congr 1;funext ρ
  show (!ef V (enot g) ρ)=_
  rw[Zfz,Bool.not_not]
 have HSUB:Hid (∀ W1 v,NatV W1 v (totN N fx (ef V (enot g)))->NatV W1 va (2^N)->Calls Tryz.prog 86 #[va,v] W1 fun e w'=>(∃ v',e=.returned (.tuple #[v',.bool true])/\NatV w' v' (totN N fx (ef V g))/\∀ q,v'.ownBlock=some q->W1.heap.size<=q)/\Below W1.heap.size W1 w'):=Hd fun W1 v h1 h2=>by
  have:=Zv1 h2 h1 hle
  rwa [hval] at this
 rw[<- hN] at hva;have HVA:=Hd hva;have HR0:=Hd (Wr.of_below hbz (· = kt));obtain⟨P,hP⟩:∃ P,P=TtR F ⟨ba,bt,bk,bx,bf,kt,xb⟩ mb o m V fv fx g W:=⟨_,rfl⟩;have HPE:=Hd hP;rw[<- hP];have HZ:=Hd hz;have HN:=Hd hN;have eg1:=Zf0;unfold TtC.caps at HI ⊢;clear hP h IH hg hlt hwz hbz hz hva hle hval hodd hN
 show Calls _ _ #[_,_,_,_,_,_] _ _
 go_enter Tryz.func84,Tryz.ntmps84
 go_wp2_with fail;refine HNEG.out.mono ?_;rintro x w' ⟨rfl,rfl⟩;clear HNEG;go_upto_region 4 with fail;refine Zem [0,1,2,3,4,5,6,7,8,9,10] (fun W'=>W'.cell? ⟨ba,0,none⟩=some va/\W'.cell? ⟨bt,0,none⟩=some (.func (.func 84) #[] #[.pointer (some ⟨ba,0,none⟩),.pointer (some ⟨bt,0,none⟩),.pointer (some ⟨bk,0,none⟩),.pointer (some ⟨bx,0,none⟩),.pointer (some ⟨bf,0,none⟩)])) (fun ch w'=>False) (fun c a w hd h=>h.elim) (by kernel_rfl) (by rw[<- HWZ.out];exact⟨cba,cbt⟩) ?_;rw[<- HWZ.out]
 iterate 3
  refine Zcr rfl rfl (by kernel_rfl) ?_;apply Exists.intro;refine⟨fun w' hw=>?_,?_⟩
  ·
   obtain⟨q1,q2⟩:=hw;go_simp;rfl
  simp only[Zag]
 refine Zbb (R1:=fun u w'=>u=.int .i64 (enot g:Nat)/\wz=w') rfl (by kernel_rfl) rfl rfl (by go_simp) (HNOT.out.mono fun x w' h=>⟨_,h.1,rfl,h.2⟩) (by rintro u w' ⟨_,rfl⟩;exact⟨cba,cbt⟩) ?_;rintro u w'-⟨rfl,rfl⟩;simp only[Zag]
 refine Zbb (R1:=fun u w'=>Wr (· = kt) wz w'/\TtS F ⟨ba,bt,bk,bx,bf,kt,xb⟩ mb o m V fv fx w'/\NatV w' u (totN N fx (ef V (enot g)))) rfl (by kernel_rfl) rfl rfl (by go_simp) (HI.out.mono fun x w' ⟨v,e,q1,q2,q3,_⟩=>⟨v,e,q1,q2,by rw[HN.out];exact q3⟩) (by
  rintro u w' ⟨q1,q2,_⟩;refine⟨?_,q2.bt⟩;exact(World.cell?_of_block (w:=wz) (a:=⟨ba,0,none⟩) (q1.keep ba (Zab cba) (fun e=>HZ.out.ne.1 e.symm))).trans cba) ?_
 rintro u1 w1 ⟨cba1,cbt1⟩ ⟨r1,s1,n1⟩;simp only[Zag];obtain⟨l1,ml1,_⟩:=HZ.out.map;have HSB:=Hd (HSUB.out w1 u1 n1 (HVA.out.other ml1 r1))
 refine Zbb (R1:=fun u w'=>∃ v',u=.tuple #[v',.bool true]/\(NatV w' v' (totN N fx (ef V g))/\∀ q,v'.ownBlock=some q->w1.heap.size<=q)/\Below w1.heap.size w1 w') rfl (by kernel_rfl) rfl rfl (by go_simp) (HSB.out.mono fun x w' ⟨⟨v,e,q1⟩,q2⟩=>⟨_,e,v,rfl,q1,q2⟩) (by
  rintro u w' ⟨v,_,_,q⟩;exact⟨(q.cell (p:=⟨ba,0,none⟩) (Zab cba1)).trans cba1,(q.cell (p:=⟨bt,0,none⟩) (Zab cbt1)).trans cbt1⟩) ?_
 rintro u2 w2-⟨v2,rfl,⟨n2,k2⟩,p2⟩;simp only[Zag]
 have HF:Hid (P (.returned v2) w2):=Hd (by
  rw[HPE.out];exact⟨v2,rfl,(HR0.out.trans r1 (fun _ _ e=>e) (fun _ _ e=>e)).trans (Wr.of_below p2 (· = kt)) (fun _ _ e=>e) (fun _ _ e=>e),s1.below p2,(by rw[<- HN.out];exact n2),fun q e=>s1.lt.none (k2 q e)⟩)
 clear k2 n2 p2 n1 r1 s1 cba1 cbt1 HSB HI HNOT HSUB ml1
 iterate 5
  refine Zcr rfl rfl (by kernel_rfl) ?_;apply Exists.intro;refine⟨fun w' hw=>?_,?_⟩
  ·
   go_simp;rfl
  simp only[Zag]
 refine Zi8 (by kernel_rfl) ?_;clear cba cbt;go_wp2_with fail
 first|exact HF.out|(go_ret;exact HF.out)
theorem Ycn {g:Nat} (hg:okE (Zaa m.d) g) (h0:g≠0) (hev:g%2=0) {v:Value} (hv:NatV W v (totN m.d.vars.length fx (ef V g))/\∀ q,v.ownBlock=some q->o q=none) (hlk:(Instr.lookup 151 (.map (some c.kt)) (.int .i64 (g:Nat)) true).run Tryz.prog W=.ok (.tuple #[v,.bool true]) W) (h:TtS F c mb o m V fv fx W) :
 Calls Tryz.prog 84 (#[.int .i64 (g:Nat)]++c.caps) W (TtR F c mb o m V fv fx g W):=by
 obtain⟨ba,bt,bk,bx,bf,kt,xb⟩:=c;have hlt:=Zgl (K:=fun _ _=>F) (V:=V) h.is hg;have hg0:¬ ((g:Nat):Int)=0:=by omega
 have HNEG:Hid (Calls Tryz.prog 85 #[.int .i64 g] W fun x w'=>x=.returned (.bool false)/\W=w'):=Hd (by
  have:=Zf9 g W hlt
  rwa [show eneg g=false by simp[eneg,hev]] at this)
 have cbk:=h.bk;have HF:Hid (TtR F ⟨ba,bt,bk,bx,bf,kt,xb⟩ mb o m V fv fx g W (.returned v) W):=Hd ⟨v,rfl,Wr.refl _ _,h,hv.1,hv.2⟩;unfold TtC.caps;obtain⟨P,hP⟩:∃ P,P=TtR F ⟨ba,bt,bk,bx,bf,kt,xb⟩ mb o m V fv fx g W:=⟨_,rfl⟩;rw[<- hP] at HF ⊢;clear hP h hv hg hlt hev h0
 show Calls _ _ #[_,_,_,_,_,_] _ _
 go_enter Tryz.func84,Tryz.ntmps84
 go_wp2_with fail;refine HNEG.out.mono ?_;rintro x w' ⟨rfl,rfl⟩;clear HNEG;go_wp2_with fail
 first|exact HF.out|(go_ret;exact HF.out)
theorem Ydf {k:Nat} (IH:∀ g W,TtS F c mb o m V fv fx W->okE (Zaa m.d) g->m.d.vars.length<=lvE m.d.vars.length (levN m.d) (Zaa m.d) g+k->Calls Tryz.prog 84 (#[.int .i64 (g:Nat)]++c.caps) W (TtR F c mb o m V fv fx g W))
 {g:Nat} {b:BN} (hb:Zaa m.d (g/2)=some b) (hev:g%2=0) (hlev:m.d.vars.length<=lvE m.d.vars.length (levN m.d) (Zaa m.d) g+(k+1)) {z:Value} (hlk:(Instr.lookup 151 (.map (some c.kt)) (.int .i64 (g:Nat)) true).run Tryz.prog W=.ok (.tuple #[z,.bool false]) W) (h:TtS F c mb o m V fv fx W) :
 Calls Tryz.prog 84 (#[.int .i64 (g:Nat)]++c.caps) W (TtR F c mb o m V fv fx g W):=by
 obtain⟨ba,bt,bk,bx,bf,kt,xb⟩:=c;have hg:okE (Zaa m.d) g:=.inr ⟨b,hb⟩;have hlt:=Zgl (K:=fun _ _=>F) (V:=V) h.is hg;have hbv:=h.ok.dag.var _ _ hb;have hl:levN m.d b.v<=lvE m.d.vars.length (levN m.d) (Zaa m.d) g:=by unfold lvE;rw[hb];exact Nat.le_refl _
 have hl2:lvE m.d.vars.length (levN m.d) (Zaa m.d) g=levN m.d b.v:=by unfold lvE;rw[hb]
 obtain⟨q1,q2,q3,q4,_⟩:=Zbv h.ok hg hbv hl;obtain⟨⟨_,c0f⟩,_,c1f⟩:=Ybo h.ok hb;have hg0:¬ ((g:Nat):Int)=0:=fun e=>by
  have:g/2=0:=by omega
  rw[this,h.ok.dag.none0] at hb;cases hb
 have HNEG:Hid (Calls Tryz.prog 85 #[.int .i64 g] W fun x w'=>x=.returned (.bool false)/\W=w'):=Hd (by
  have:=Zf9 g W hlt
  rwa [show eneg g=false by simp[eneg,hev]] at this)
 obtain⟨lo,hlo⟩:∃ z,z=(cofs m.d g b.v).1:=⟨_,rfl⟩;obtain⟨hi,hhi⟩:∃ z,z=(cofs m.d g b.v).2:=⟨_,rfl⟩;rw[<- hlo] at q1 q3 c0f;rw[<- hhi] at q2 q4 c1f;obtain⟨bv,hbv2⟩:∃ z,z=b.v:=⟨_,rfl⟩;have HTOP:Hid (∀ W' s,TtS F ⟨ba,bt,bk,bx,bf,kt,xb⟩ mb o m V fv fx W'->W'.heap[s]?=some (.cells #[.int .i64 g] 83 (0,0))->Calls Tryz.prog 87 #[.pointer (some ⟨xb,0,none⟩),.slice (some ⟨s,0,none⟩) 1 1] W' fun x w'=>x=.returned (.int .i64 (bv:Nat))/\Below W'.heap.size W' w'):=Hd fun W' s g' hs=>by
  refine(Zgk g'.is g'.lt g'.x g'.ok [g] (by simpa using hg) (some ⟨s,0,none⟩) 1 ⟨by simp,fun i hi'=>?_⟩).mono ?_
  ·
   obtain rfl:i=0:=by simpa using hi'
   exact⟨s,0,rfl,by rw[cell_of_row _ _ 0 _ _ _ hs];rfl⟩
  ·
   rintro x w' ⟨top,least,rfl,ht,hbel⟩;rcases Ztc ht with ⟨_,hn⟩|⟨b',hb',rfl⟩
   ·
    rw[hb] at hn;cases hn
   ·
    rw[hb] at hb';cases hb';exact⟨by rw[hbv2],hbel⟩
 have HSP:Hid (∀ W',TtS F ⟨ba,bt,bk,bx,bf,kt,xb⟩ mb o m V fv fx W'->Calls Tryz.prog 88 #[.pointer (some ⟨xb,0,none⟩),.int .i64 g,.int .i64 (bv:Nat)] W' fun x w'=>x=.returned (.tuple #[.int .i64 lo,.int .i64 hi])/\Below W'.heap.size W' w'):=Hd fun W' g'=>by
  have:=Zek g'.is g'.lt g'.x g'.ok g hg (b.v:Nat);rw[<- hlo,<- hhi,<- hbv2] at this;exact this
 have HFX:Hid (∀ W',TtS F ⟨ba,bt,bk,bx,bf,kt,xb⟩ mb o m V fv fx W'->(Instr.lookup 97 fv (.int .i64 (bv:Nat)) true).run Tryz.prog W'=.ok (.tuple #[.bool ((fx bv).getD false),.bool (fx bv).isSome]) W'):=Hd fun W' g'=>g'.fix.lookup bv
 obtain⟨N,hN⟩:∃ N,N=m.d.vars.length:=⟨_,rfl⟩;have HN:=Hd hN;have HI1:Hid (∀ W',TtS F ⟨ba,bt,bk,bx,bf,kt,xb⟩ mb o m V fv fx W'->Calls Tryz.prog 84 #[.int .i64 lo,.pointer (some ⟨ba,0,none⟩),.pointer (some ⟨bt,0,none⟩),.pointer (some ⟨bk,0,none⟩),.pointer (some ⟨bx,0,none⟩),.pointer (some ⟨bf,0,none⟩)] W' fun x w'=>∃ v,x=.returned v/\Wr (· = kt) W' w'/\TtS F ⟨ba,bt,bk,bx,bf,kt,xb⟩ mb o m V fv fx w'/\NatV w' v (totN N fx (ef V lo))/\∀ q,v.ownBlock=some q->o q=none):=Hd fun W' g'=>by
  rw[hN];exact IH lo W' g' q1 (by omega)
 have HI2:Hid (∀ W',TtS F ⟨ba,bt,bk,bx,bf,kt,xb⟩ mb o m V fv fx W'->Calls Tryz.prog 84 #[.int .i64 hi,.pointer (some ⟨ba,0,none⟩),.pointer (some ⟨bt,0,none⟩),.pointer (some ⟨bk,0,none⟩),.pointer (some ⟨bx,0,none⟩),.pointer (some ⟨bf,0,none⟩)] W' fun x w'=>∃ v,x=.returned v/\Wr (· = kt) W' w'/\TtS F ⟨ba,bt,bk,bx,bf,kt,xb⟩ mb o m V fv fx w'/\NatV w' v (totN N fx (ef V hi))/\∀ q,v.ownBlock=some q->o q=none):=Hd fun W' g'=>by
  rw[hN];exact IH hi W' g' q2 (by omega)
 have hn64:=h.n64;rw[<- hN] at hn64;have HBIG:Hid (∀ G,totN N fx G<=18446744073709551616):=Hd fun G=>Nat.le_trans (Zyi _ _ _) (Nat.le_trans (Nat.pow_le_pow_right (by omega) hn64) (by decide))
 have HSOME:Hid (∀ y,fx bv=some y->totN N fx (ef V (if y then hi else lo))=totN N fx (ef V g)):=Hd fun y hy=>by
  rw[hbv2] at hy;cases y with
  | true=>rw[if_pos rfl,c1f,Zqr hy]
  | false=>rw[if_neg (by simp),c0f,Zqr hy]
 have HNONE:Hid (fx bv=none->(totN N fx (ef V lo)+totN N fx (ef V hi))/2=totN N fx (ef V g)):=Hd fun hy=>by
  rw[hbv2] at hy;rw[c0f,c1f];exact Zyj hy (by rw[hN];exact hbv) _
 have HPUT:Hid (∀ W' v,TtS F ⟨ba,bt,bk,bx,bf,kt,xb⟩ mb o m V fv fx W'->NatV W' v (totN N fx (ef V g))->(∀ q,v.ownBlock=some q->o q=none)->∃ w',(Instr.mapUpdate 151 (.map (some kt)) (.int .i64 (g:Nat)) v).run Tryz.prog W'=.ok () w'/\Wr (· = kt) W' w'/\TtS F ⟨ba,bt,bk,bx,bf,kt,xb⟩ mb o m V fv fx w'/\NatV w' v (totN N fx (ef V g))):=Hd fun W' v g' hv hq=>by
  rw[hN] at hv ⊢;exact g'.put g hv hq
 have cbk:=h.bk;have HS:=Hd h;obtain⟨P,hP⟩:∃ P,P=TtR F ⟨ba,bt,bk,bx,bf,kt,xb⟩ mb o m V fv fx g W:=⟨_,rfl⟩
 have HP:Hid (∀ w' v,Wr (· = kt) W w'->TtS F ⟨ba,bt,bk,bx,bf,kt,xb⟩ mb o m V fv fx w'->NatV w' v (totN N fx (ef V g))->(∀ q,v.ownBlock=some q->o q=none)->P (.returned v) w'):=Hd (by
  rw[hP];exact fun w' v p1 p2 p3 p4=>⟨v,rfl,p1,p2,(by rw[<- hN];exact p3),p4⟩)
 have eg1:=Zf0;unfold TtC.caps;rw[<- hP];clear hP h IH hb hev hlev hg hlt hbv hl hl2 q1 q2 q3 q4 c0f c1f hlo hhi hbv2 hN hn64
 show Calls _ _ #[_,_,_,_,_,_] _ _
 go_enter Tryz.func84,Tryz.ntmps84
 go_wp2_with fail;refine HNEG.out.mono ?_;rintro x w' ⟨rfl,rfl⟩;clear HNEG;have cbx:=HS.out.bx;have hb4:=Zaf W (.cells #[.int .i64 g] 83);obtain⟨w4,hw4⟩:∃ w4,w4=W.alloc (.cells #[.int .i64 g] 83):=⟨_,rfl⟩;rw[<- hw4] at hb4;have hrow:w4.heap[W.heap.size]?=some (.cells #[.int .i64 g] 83 (0,0)):=by rw[hw4];exact heap_alloc_new _ _
 have HS4:=Hd (HS.out.below hb4);have HW4:=Hd (Wr.of_below hb4 (· = kt));have HT4:=Hd (HTOP.out w4 _ HS4.out hrow);have HT5:Hid (Calls Tryz.prog 87 #[.pointer (some ⟨xb,0,none⟩),.slice (some ⟨W.heap.size,0,none⟩) 1 1] (W.alloc (.cells #[.int .i64 g] 83)) fun x w'=>x=.returned (.int .i64 (bv:Nat))/\Below w4.heap.size w4 w'):=Hd (by have:=HT4.out;rw[hw4] at this ⊢;exact this);clear hb4 hw4 hrow HT4 HTOP;go_wp2_with fail;refine HT5.out.mono ?_;rintro x w5 ⟨rfl,hb5⟩;have HS5:=Hd (HS4.out.below hb5);have HW5:=Hd (HW4.out.trans (Wr.of_below hb5 (· = kt)) (fun _ _ e=>e) (fun _ _ e=>e));have cbx5:=HS5.out.bx;have HSP5:=Hd (HSP.out w5 HS5.out);clear hb5 HT5 HS4 HW4 cbx cbk hlk HS HSP;go_wp2_with fail;refine HSP5.out.mono ?_;rintro x w6 ⟨rfl,hb6⟩;have HS6:=Hd (HS5.out.below hb6);have HW6:=Hd (HW5.out.trans (Wr.of_below hb6 (· = kt)) (fun _ _ e=>e) (fun _ _ e=>e));have cbf6:=HS6.out.bf;have hlk6:=HFX.out w6 HS6.out;have cbt6:=HS6.out.bt;unfold TtC.caps at cbt6;clear hb6 HSP5 HS5 HW5 cbx5 HFX;cases hfx:fx bv with
 | some y =>
   have hsm:=HSOME.out y hfx;rw[hfx] at hlk6;have hlk7:(Instr.lookup 97 fv (.int .i64 (bv:Nat)) true).run Tryz.prog w6=.ok (.tuple #[.bool y,.bool true]) w6:=hlk6;clear hlk6 hfx HSOME HNONE HBIG;cases y with
   | true =>
     have HSM:Hid (totN N fx (ef V hi)=totN N fx (ef V g)):=Hd hsm;have HC:=Hd (HI2.out w6 HS6.out);clear hsm HI1 HI2;go_wp2_with fail;refine HC.out.mono ?_;rintro x w7 ⟨v7,rfl,r7,s7,n7,k7⟩;rw[HSM.out] at n7;obtain⟨wc,hup,rc,sc,nc⟩:=HPUT.out w7 v7 s7 n7 k7;have HF:=Hd (HP.out wc v7 ((HW6.out.trans r7 (fun _ _ e=>e) (fun _ _ e=>e)).trans rc (fun _ _ e=>e) (fun _ _ e=>e)) sc nc k7);have cbk8:=s7.bk;clear k7 r7 s7 n7 rc sc nc HC HPUT HP HS6 HW6 hlk7 cbf6 cbt6 HSM;go_wp2_with fail
     first|exact HF.out|(go_ret;exact HF.out)
   | false =>
     have HSM:Hid (totN N fx (ef V lo)=totN N fx (ef V g)):=Hd hsm;have HC:=Hd (HI1.out w6 HS6.out);clear hsm HI1 HI2;go_wp2_with fail;refine HC.out.mono ?_;rintro x w7 ⟨v7,rfl,r7,s7,n7,k7⟩;rw[HSM.out] at n7;obtain⟨wc,hup,rc,sc,nc⟩:=HPUT.out w7 v7 s7 n7 k7;have HF:=Hd (HP.out wc v7 ((HW6.out.trans r7 (fun _ _ e=>e) (fun _ _ e=>e)).trans rc (fun _ _ e=>e) (fun _ _ e=>e)) sc nc k7);have cbk8:=s7.bk;clear k7 r7 s7 n7 rc sc nc HC HPUT HP HS6 HW6 hlk7 cbf6 cbt6 HSM;go_wp2_with fail
     first|exact HF.out|(go_ret;exact HF.out)
 | none =>
   have HNN:=Hd (HNONE.out hfx);rw[hfx] at hlk6;have hlk7:(Instr.lookup 97 fv (.int .i64 (bv:Nat)) true).run Tryz.prog w6=.ok (.tuple #[.bool false,.bool false]) w6:=hlk6;clear hlk6 hfx HSOME HNONE;go_upto_region 13 with fail;clear hlk7 cbf6;obtain⟨wz,hwz⟩:∃ wz,wz=w6.drew:=⟨_,rfl⟩;have hbz:Below w6.heap.size w6 wz:=by rw[hwz];exact Zah w6 1
   have HWZ:=Hd hwz;have HSZ:=Hd (HS6.out.below hbz);have HWRZ:=Hd (HW6.out.trans (Wr.of_below hbz (· = kt)) (fun _ _ e=>e) (fun _ _ e=>e));have cz:=HSZ.out.bt;unfold TtC.caps at cz;clear hwz hbz;refine Zem [0,1,3,4,2,5,6,7,8,9,10,11,12] (fun W'=>W'.cell? ⟨bt,0,none⟩=some (.func (.func 84) #[] #[.pointer (some ⟨ba,0,none⟩),.pointer (some ⟨bt,0,none⟩),.pointer (some ⟨bk,0,none⟩),.pointer (some ⟨bx,0,none⟩),.pointer (some ⟨bf,0,none⟩)])) (fun ch w'=>False) (fun c a w hd h=>h.elim) (by kernel_rfl) (by rw[<- HWZ.out];exact cz) ?_;rw[<- HWZ.out]
   iterate 4
    refine Zcr rfl rfl (by kernel_rfl) ?_;apply Exists.intro;refine⟨fun w' hw=>?_,?_⟩
    ·
     have q1:w'.cell? ⟨bt,0,none⟩=some (.func (.func 84) #[] #[.pointer (some ⟨ba,0,none⟩),.pointer (some ⟨bt,0,none⟩),.pointer (some ⟨bk,0,none⟩),.pointer (some ⟨bx,0,none⟩),.pointer (some ⟨bf,0,none⟩)]):=hw;go_simp;rfl
    simp only[Zag]
   refine Zbb (R1:=fun u w'=>Wr (· = kt) wz w'/\TtS F ⟨ba,bt,bk,bx,bf,kt,xb⟩ mb o m V fv fx w'/\NatV w' u (totN N fx (ef V lo))) rfl (by kernel_rfl) rfl rfl (by go_simp) ((HI1.out wz HSZ.out).mono fun x w' ⟨v,e,h1,h2,h3,_⟩=>⟨v,e,h1,h2,h3⟩) (by rintro u w' ⟨_,q2,_⟩;exact q2.bt) ?_;rintro u1 w7-⟨r1,s1,n1⟩;simp only[Zag];refine Zbb (R1:=fun u w'=>Wr (· = kt) w7 w'/\TtS F ⟨ba,bt,bk,bx,bf,kt,xb⟩ mb o m V fv fx w'/\NatV w' u (totN N fx (ef V hi))) rfl (by kernel_rfl) rfl rfl (by go_simp) ((HI2.out w7 s1).mono fun x w' ⟨v,e,h1,h2,h3,_⟩=>⟨v,e,h1,h2,h3⟩) (by rintro u w' ⟨_,q2,_⟩;exact q2.bt) ?_;rintro u2 w8-⟨r2,s2,n2⟩;simp only[Zag];obtain⟨l1,ml1,_⟩:=s1.map;have n1':=n1.other ml1 r2;obtain⟨ax,lx,cx,rfl⟩:∃ a l c,u1=.slice a l c:=by
    obtain⟨a,c,e,_⟩:=n1;exact⟨a,_,c,e⟩
   obtain⟨ay,ly,cy,rfl⟩:∃ a l c,u2=.slice a l c:=by
    obtain⟨a,c,e,_⟩:=n2;exact⟨a,_,c,e⟩
   obtain⟨w9,hw9⟩:∃ w9,w9=w8.alloc (.cells #[.slice ax lx cx,.slice ay ly cy] 40):=⟨_,rfl⟩;have hb9:Below w8.heap.size w8 w9:=by rw[hw9];exact Zaf _ _
   have g9:w9.heap[w8.heap.size]?=some (.cells #[.slice ax lx cx,.slice ay ly cy] 40 (0,0)):=by rw[hw9];exact heap_alloc_new _ _
   have HWE9:=Hd hw9;have HS9:=Hd (s2.below hb9);have HWR9:=Hd (((HWRZ.out.trans r1 (fun _ _ e=>e) (fun _ _ e=>e)).trans r2 (fun _ _ e=>e) (fun _ _ e=>e)).trans (Wr.of_below hb9 (· = kt)) (fun _ _ e=>e) (fun _ _ e=>e))
   have ha9:Zq0 w9 (some ⟨w8.heap.size,0,none⟩) [totN N fx (ef V lo),totN N fx (ef V hi)]:=⟨by simp,fun k hk=>by
    have hk2:k<2:=by simpa using hk
    rcases(show k=0\/k=1 by omega) with rfl|rfl
    ·
     exact⟨_,_,_,rfl,by rw[cell_of_row _ _ _ _ _ _ g9];rfl,n1'.below hb9⟩
    ·
     exact⟨_,_,_,rfl,by rw[cell_of_row _ _ _ _ _ _ g9];rfl,n2.below hb9⟩⟩
   have hsum:[totN N fx (ef V lo),totN N fx (ef V hi)].sum<4294967296^1000:=by
    have h1:=HBIG.out (ef V lo);have h2:=HBIG.out (ef V hi);have h3:[totN N fx (ef V lo),totN N fx (ef V hi)].sum<4294967296^3:=by
     rw[show (4294967296:Nat)^3=79228162514264337593543950336 by decide];simp only[List.sum_cons,List.sum_nil];omega
    exact Nat.lt_of_lt_of_le h3 (Nat.pow_le_pow_right (n:=4294967296) (i:=3) (j:=1000) (by omega) (by omega))
   have HAD:=Hd (Zlx (c:=2) ha9 hsum);refine Znq (w':=w9) (v:=.slice (some ⟨w8.heap.size,0,none⟩) 2 2) rfl (by kernel_rfl) rfl (by go_simp<;>exact HWE9.out.symm) HS9.out.bt ?_;simp only[Zag];refine Zbb (R1:=fun u w'=>NatV w' u (totN N fx (ef V lo)+totN N fx (ef V hi))/\Below w9.heap.size w9 w') rfl (by kernel_rfl) rfl rfl (by go_simp) (HAD.out.mono fun x w' ⟨⟨v,e,q1⟩,q2⟩=>⟨v,e,by simpa using q1,q2⟩) (by rintro u w' ⟨_,q⟩;exact(q.cell (p:=⟨bt,0,none⟩) (Zab HS9.out.bt)).trans HS9.out.bt) ?_;rintro u3 wa-⟨n3,p3⟩;simp only[Zag];have HHF:=Hd (Zgj n3);have HSA:=Hd (HS9.out.below p3);refine Zbb (R1:=fun u w'=>∃ v' bb,u=.tuple #[v',.bool bb]/\(NatV w' v' ((totN N fx (ef V lo)+totN N fx (ef V hi))/2)/\∀ q,v'.ownBlock=some q->wa.heap.size<=q)/\Below wa.heap.size wa w') rfl (by kernel_rfl) rfl rfl (by go_simp) (HHF.out.mono fun x w' ⟨⟨v,e,q1⟩,q2⟩=>⟨_,e,v,_,rfl,q1,q2⟩) (by rintro u w' ⟨_,_,_,_,q⟩;exact(q.cell (p:=⟨bt,0,none⟩) (Zab HSA.out.bt)).trans HSA.out.bt) ?_;rintro u4 wb-⟨v4,b4,rfl,⟨n4,k4⟩,p4⟩;have k5:∀ q,v4.ownBlock=some q->o q=none:=fun q e=>HSA.out.lt.none (k4 q e)
   rw[HNN.out] at n4;simp only[Zag];have HSB:=Hd (HSA.out.below p4);have HWRB:=Hd ((HWR9.out.trans (Wr.of_below p3 (· = kt)) (fun _ _ e=>e) (fun _ _ e=>e)).trans (Wr.of_below p4 (· = kt)) (fun _ _ e=>e) (fun _ _ e=>e));obtain⟨wc,hup,rc,sc,nc⟩:=HPUT.out wb v4 HSB.out n4 k5;have HF:=Hd (HP.out wc v4 (HWRB.out.trans rc (fun _ _ e=>e) (fun _ _ e=>e)) sc nc k5);have cbk8:=HSB.out.bk;clear k4 k5 n1 n1' n2 n3 n4 r1 r2 s1 s2 hw9 hb9 g9 ha9 hsum ml1 p3 p4 rc sc nc HAD HHF HI1 HI2 HS9 HWR9 HSA HWRB HPUT HBIG HNN HWE9 cz HSZ HWRZ
   iterate 4
    refine Zcr rfl rfl (by kernel_rfl) ?_;apply Exists.intro;refine⟨fun w' hw=>?_,?_⟩
    ·
     go_simp;rfl
    simp only[Zag]
   refine Zi8 (by kernel_rfl) ?_;go_wp2_with fail
   first|exact HF.out|(go_ret;exact HF.out)
theorem Zqs {k:Nat} (IH:∀ j,k=j+1->∀ g W,TtS F c mb o m V fv fx W->okE (Zaa m.d) g->m.d.vars.length<=lvE m.d.vars.length (levN m.d) (Zaa m.d) g+j->Calls Tryz.prog 84 (#[.int .i64 (g:Nat)]++c.caps) W (TtR F c mb o m V fv fx g W))
 {g:Nat} (h:TtS F c mb o m V fv fx W) (hg:okE (Zaa m.d) g) (hev:g%2=0) (hl:m.d.vars.length<=lvE m.d.vars.length (levN m.d) (Zaa m.d) g+k) :
 Calls Tryz.prog 84 (#[.int .i64 (g:Nat)]++c.caps) W (TtR F c mb o m V fv fx g W):=by
 by_cases h0:g=0
 ·
  subst h0;exact Ycp h
 ·
  rcases hg with h1|⟨b,hb⟩
  ·
   omega
  ·
   obtain⟨r,hr,hlk⟩:=h.get g;cases r with
   | some v=>exact Ycn (.inr ⟨b,hb⟩) h0 hev (hr v rfl) hlk h
   | none =>
     cases k with
     | zero =>
       exfalso;have h1:=h.ok.dag.lt b.v (h.ok.dag.var _ _ hb);unfold lvE at hl;rw[hb] at hl;simp at hl;omega
     | succ j=>exact Ydf (fun g W=>IH j rfl g W) hb hev hl hlk h
theorem Zte {k:Nat} (IH:∀ j,k=j+1->∀ g W,TtS F c mb o m V fv fx W->okE (Zaa m.d) g->m.d.vars.length<=lvE m.d.vars.length (levN m.d) (Zaa m.d) g+j->Calls Tryz.prog 84 (#[.int .i64 (g:Nat)]++c.caps) W (TtR F c mb o m V fv fx g W))
 {g:Nat} (h:TtS F c mb o m V fv fx W) (hg:okE (Zaa m.d) g) (hl:m.d.vars.length<=lvE m.d.vars.length (levN m.d) (Zaa m.d) g+k) :
 Calls Tryz.prog 84 (#[.int .i64 (g:Nat)]++c.caps) W (TtR F c mb o m V fv fx g W):=by
 rcases(show g%2=0\/g%2=1 by omega) with he|he
 ·
  exact Zqs IH h hg he hl
 ·
  refine Yco hg he (fun W h=>Zqs IH h (Zns hg) (by rw[Zjl];omega) ?_) h;unfold lvE at hl ⊢;rw[Zdt];exact hl
theorem Zyl:∀ (k g:Nat) (W:World),TtS F c mb o m V fv fx W->okE (Zaa m.d) g->m.d.vars.length<=lvE m.d.vars.length (levN m.d) (Zaa m.d) g+k->Calls Tryz.prog 84 (#[.int .i64 (g:Nat)]++c.caps) W (TtR F c mb o m V fv fx g W)
 | 0,_,_,h,hg,hl=>Zte (k:=0) (fun j e=>by omega) h hg hl
 | k+1,_,_,h,hg,hl=>Zte (k:=k+1) (fun j e g W h hg hl=>by
  obtain rfl:k=j:=by omega
  exact Zyl k g W h hg hl) h hg hl
end
open Go.RowKit
def ctL (cs:List (Nat×Nat)):List (Int×Value):=cs.map fun p=>((p.1:Int),(.int .i64 (p.2:Nat):Value))
theorem Zq6 (v:Nat):∀ (cs:List (Nat×Nat)) (i:Nat),(Zbw (v:Int) (ctL cs) i=none/\getC v cs=0/\Zfc v cs=cs++[(v,1)])\/∃ j,Zbw (v:Int) (ctL cs) i=some (i+j,.int .i64 (getC v cs:Nat))/\Zfc v cs=cs.set j (v,getC v cs+1)
 | [],i=>.inl ⟨rfl,rfl,rfl⟩
 | p::r,i=>by
   by_cases h:p.1=v
   ·
    refine .inr ⟨0,?_,?_⟩
    ·
     show (if (p.1:Int)=(v:Int) then _ else _)=_
     rw[if_pos (by rw[h])];simp[getC,h]
    ·
     simp[Zfc,getC,h]
   ·
    have hne:¬ (p.1:Int)=(v:Int):=fun e=>h (Int.ofNat.inj e)
    have e1:∀ i,Zbw (v:Int) (ctL (p::r)) i=Zbw (v:Int) (ctL r) (i+1):=fun i=>by
     show (if (p.1:Int)=(v:Int) then _ else _)=_
     rw[if_neg hne];rfl
    rcases Zq6 v r (i+1) with ⟨a,b,c⟩|⟨j,a,b⟩
    ·
     exact .inl ⟨by rw[e1,a],by simp[getC,h,b],by simp[Zfc,h,c]⟩
    ·
     refine .inr ⟨j+1,?_,?_⟩
     ·
      rw[e1,a];simp[getC,h];omega
     ·
      simp[Zfc,h,b,getC]
theorem Zo0 {w:World} {b:Nat} {cs:List (Nat×Nat)} (h:Zaz w b (Value.int .i64) (ctL cs)) (v:Nat) :
 (Instr.lookup 158 (.map (some b)) (.int .i64 (v:Nat)) false).run Tryz.prog w=.ok (.int .i64 (getC v cs:Nat)) w:=by
 have:=h.lookup Zkk Tryz.underlying158 Tryz.zeroValue3 (v:Int) false;rw[this];unfold getL;rcases Zq6 v cs 0 with ⟨a,b,_⟩|⟨j,a,_⟩
 ·
  rw[a,b];simp
 ·
  rw[a];simp
theorem Zv6 {w:World} {b:Nat} {cs:List (Nat×Nat)} (h:Zaz w b (Value.int .i64) (ctL cs)) (v:Nat) {c:Int} (hc:c=(getC v cs+1:Nat)) :
 ∃ w',(Instr.mapUpdate 158 (.map (some b)) (.int .i64 (v:Nat)) (.int .i64 c)).run Tryz.prog w=.ok () w'/\Zaz w' b (Value.int .i64) (ctL (Zfc v cs))/\w.grownBy w' (some b):=by
 obtain⟨w',h1,h2,h3⟩:=h.update Zkk Tryz.underlying158 (v:Int) (.int .i64 c);refine⟨w',h1,?_,h3⟩;have e:putL (v:Int) (.int .i64 c) (ctL cs)=ctL (Zfc v cs):=by
  unfold putL;subst hc;rcases Zq6 v cs 0 with ⟨a,b,q⟩|⟨j,a,q⟩
  ·
   rw[a,q];simp[ctL,b]
  ·
   rw[a,q];simp[ctL,List.map_set]
 rw[<- e];exact h2
open Go.RowKit
theorem Zm8 (args:Array Value) (w:World):(callFunc 151 args).run Tryz.prog w=.ok (.enter 151 args) w:=enters_of Tryz.func151 (by kernel_rfl) rfl args w
structure SnC where
 bm:Nat
 bx:Nat
 bn:Nat
 bd:Nat
 mt:Nat
 nt:Nat
 xb:Nat
def SnC.caps (c:SnC):Array Value:=#[.pointer (some ⟨c.bm,0,none⟩),.pointer (some ⟨c.bx,0,none⟩),.pointer (some ⟨c.bn,0,none⟩),.pointer (some ⟨c.bd,0,none⟩)]
def SnC.two (c:SnC) (k:Nat):Prop:=k=c.mt\/k=c.nt
structure SnS (F:Phi) (c:SnC) (mb:Nat) (o:Own) (m:ManD) (V:Nat->BF) (met:List Nat) (cs:List (Nat×Nat)) (W:World):Prop where
 is:Zd0 F o W mb m
 lt:Zai o W
 ok:Zaj m.d V
 x:Zer o W c.xb mb
 bm:W.cell? ⟨c.bm,0,none⟩=some (.map (some c.mt))
 bx:W.cell? ⟨c.bx,0,none⟩=some (.pointer (some ⟨c.xb,0,none⟩))
 bn:W.cell? ⟨c.bn,0,none⟩=some (.map (some c.nt))
 bd:W.cell? ⟨c.bd,0,none⟩=some (.func (.func 151) #[] c.caps)
 map:Zaz W c.mt (Value.int .i64) (mtL met)
 cnt:Zaz W c.nt (Value.int .i64) (ctL cs)
 own:∀ q,(q=c.bm\/q=c.bx\/q=c.bn\/q=c.bd\/q=c.mt\/q=c.nt)->o q=none
 ne:c.mt≠c.bm/\c.mt≠c.bx/\c.mt≠c.bn/\c.mt≠c.bd/\c.mt≠c.xb/\c.mt≠c.nt
 ne2:c.nt≠c.bm/\c.nt≠c.bx/\c.nt≠c.bn/\c.nt≠c.bd/\c.nt≠c.xb
 mok:Zib m.d met
section
variable {F:Phi} {c:SnC} {mb:Nat} {o:Own} {m:ManD} {V:Nat->BF} {met met':List Nat} {cs cs':List (Nat×Nat)} {W W':World}
theorem SnS.go (h:SnS F c mb o m V met cs W) (hx:Wr c.two W W') (hm:Zaz W' c.mt (Value.int .i64) (mtL met')) (hn:Zaz W' c.nt (Value.int .i64) (ctL cs')) (hk:Zib m.d met'):SnS F c mb o m V met' cs' W':=by
 have hc:∀ {b k:Nat} {v:Value},W.cell? ⟨b,k,none⟩=some v->c.mt≠b->c.nt≠b->W'.cell? ⟨b,k,none⟩=some v:=fun h h1 h2=>(World.cell?_of_block (w:=W) (hx.keep _ (Zab h) (fun e=>e.elim (fun e=>h1 e.symm) (fun e=>h2 e.symm)))).trans h
 obtain⟨n1,n2,n3,n4,n5,n6⟩:=h.ne;obtain⟨k1,k2,k3,k4,k5⟩:=h.ne2;exact⟨h.is.other h.lt hx (fun k _ e=>h.own k (.inr (.inr (.inr (.inr e))))),h.lt.mono hx.size,h.ok,⟨hc h.x.cell n5 k5,h.x.own⟩,hc h.bm n1 k1,hc h.bx n2 k2,hc h.bn n3 k3,hc h.bd n4 k4,hm,hn,h.own,h.ne,h.ne2,hk⟩
theorem SnS.below (h:SnS F c mb o m V met cs W) (hb:Below W.heap.size W W'):SnS F c mb o m V met cs W':=h.go (Wr.of_below hb _) (h.map.below hb) (h.cnt.below hb) h.mok
def SnR (F:Phi) (c:SnC) (mb:Nat) (o:Own) (m:ManD) (V:Nat->BF) (met:List Nat) (W:World) (x:Ending) (w':World):Prop:=x=.returned (.tuple #[])/\Wr c.two W w'/\SnS F c mb o m V met (tally m.d met) w'
theorem Zkz (h:SnS F c mb o m V met (tally m.d met) W) {f:Nat} (hf:okE (Zaa m.d) f) (hst:f/2=0\/f/2∈met):Calls Tryz.prog 151 (#[.int .i64 f]++c.caps) W (SnR F c mb o m V met W):=by
 obtain⟨bm,bx,bn,bd,mt,nt,xb⟩:=c;have hlt:=Zgl (K:=fun _ _=>F) (V:=V) h.is hf;have HCON:Hid (∀ q,Calls Tryz.prog 152 #[.int .i64 f] (W.drewN q) fun x w'=>x=.returned (.bool (decide (enode f=0)))/\W.drewN q=w'):=Hd fun q=>Zoy f _ hlt
 have HND:Hid (∀ q,Calls Tryz.prog 106 #[.int .i64 f] (W.drewN q) fun x w'=>x=.returned (.int .i64 (enode f:Nat))/\W.drewN q=w'):=Hd fun q=>Zbs f _ hlt
 have hlk:∀ q,(Instr.lookup 97 (.map (some mt)) (.int .i64 (enode f:Nat)) false).run Tryz.prog (W.drewN q)=.ok (.bool (decide (enode f∈met))) (W.drewN q):=fun q=>Zme (h.below (Zah W q)).map (enode f)
 have cbm:=h.bm;have HF:Hid (∀ q,SnR F ⟨bm,bx,bn,bd,mt,nt,xb⟩ mb o m V met W (.returned (.tuple #[])) (W.drewN q)):=Hd fun q=>⟨rfl,Wr.of_below (Zah W q) _,h.below (Zah W q)⟩
 obtain⟨P,hP⟩:∃ P,P=SnR F ⟨bm,bx,bn,bd,mt,nt,xb⟩ mb o m V met W:=⟨_,rfl⟩;rw[<- hP] at HF ⊢;unfold SnC.caps;clear hP h
 show Calls _ _ #[_,_,_,_,_] _ _
 rcases hst with h0|h0
 ·
  rw[decide_eq_true (show enode f=0 from h0)] at HCON
  go_enter Tryz.func151,Tryz.ntmps151
  go_wp2_with fail
  go_quiet ((first|(with_reducible exact Za8 (HCON.out _))|(with_reducible exact Za8 (HND.out _))))
  go_wp2_with fail;refine bodyPost_ret (results_none rfl _ _ _) rfl ?_;exact HF.out _
 ·
  simp only[decide_eq_true (show enode f∈met from h0)] at hlk
  by_cases h1:enode f=0
  ·
   rw[decide_eq_true h1] at HCON
   go_enter Tryz.func151,Tryz.ntmps151
   go_wp2_with fail
   go_quiet ((first|(with_reducible exact Za8 (HCON.out _))|(with_reducible exact Za8 (HND.out _))))
   go_wp2_with fail;refine bodyPost_ret (results_none rfl _ _ _) rfl ?_;exact HF.out _
  ·
   rw[decide_eq_false h1] at HCON
   go_enter Tryz.func151,Tryz.ntmps151
   go_wp2_with fail
   go_quiet ((first|(with_reducible exact Za8 (HCON.out _))|(with_reducible exact Za8 (HND.out _))))
   go_wp2_with fail;refine bodyPost_ret (results_none rfl _ _ _) rfl ?_;exact HF.out _
theorem Yck {k:Nat} (IH:∀ met f W,SnS F c mb o m V met (tally m.d met) W->okE (Zaa m.d) f->m.d.vars.length<=lvE m.d.vars.length (levN m.d) (Zaa m.d) f+k->Calls Tryz.prog 151 (#[.int .i64 (f:Nat)]++c.caps) W (SnR F c mb o m V (Zbu m.d k met f) W))
 (h:SnS F c mb o m V met (tally m.d met) W) {f:Nat} {b:BN} (hb:Zaa m.d (f/2)=some b) (hnm:f/2∉met) (hlev:m.d.vars.length<=lvE m.d.vars.length (levN m.d) (Zaa m.d) f+(k+1)) :
 Calls Tryz.prog 151 (#[.int .i64 f]++c.caps) W (SnR F c mb o m V (Zbu m.d k (Zbu m.d k (met++[f/2]) (cofs m.d f b.v).1) (cofs m.d f b.v).2) W):=by
 obtain⟨bm,bx,bn,bd,mt,nt,xb⟩:=c;have hf:okE (Zaa m.d) f:=.inr ⟨b,hb⟩;have hltA:∀ e,okE (Zaa m.d) e->e<eMax:=fun e he=>Zgl (K:=fun _ _=>F) (V:=V) h.is he
 have hlt:=hltA f hf;have hbv:=h.ok.dag.var _ _ hb;have hl:levN m.d b.v<=lvE m.d.vars.length (levN m.d) (Zaa m.d) f:=by unfold lvE;rw[hb];exact Nat.le_refl _
 have hl2:lvE m.d.vars.length (levN m.d) (Zaa m.d) f=levN m.d b.v:=by unfold lvE;rw[hb]
 obtain⟨q1,q2,q3,q4,_⟩:=Zbv h.ok hf hbv hl;have h0:enode f≠0:=fun e=>by
  have:f/2=0:=e;rw[this,h.ok.dag.none0] at hb;cases hb
 have hmok:=h.mok;have hmok2:=hmok.snoc hb hnm;have hcl:getC b.v (tally m.d met)<=2305843009213693952:=by
  have h1:=Yaz b.v (tally m.d met);rw[Zk9] at h1;have h2:=hmok.len hltA;omega
 obtain⟨lo,hlo⟩:∃ z,z=(cofs m.d f b.v).1:=⟨_,rfl⟩;obtain⟨hi,hhi⟩:∃ z,z=(cofs m.d f b.v).2:=⟨_,rfl⟩;rw[<- hlo,<- hhi];rw[<- hlo] at q1 q3;rw[<- hhi] at q2 q4;obtain⟨bv,hbv2⟩:∃ z,z=b.v:=⟨_,rfl⟩;have HCON:Hid (∀ q,Calls Tryz.prog 152 #[.int .i64 f] (W.drewN q) fun x w'=>x=.returned (.bool false)/\W.drewN q=w'):=Hd fun q=>by
  have:=Zoy f (W.drewN q) hlt
  rwa [decide_eq_false h0] at this
 have HND:Hid (∀ W',Calls Tryz.prog 106 #[.int .i64 f] W' fun x w'=>x=.returned (.int .i64 (enode f:Nat))/\W'=w'):=Hd fun W'=>Zbs f W' hlt
 have HNQ:Hid (∀ q,Calls Tryz.prog 106 #[.int .i64 f] (W.drewN q) fun x w'=>x=.returned (.int .i64 (enode f:Nat))/\W.drewN q=w'):=Hd fun q=>Zbs f _ hlt
 have hlk:∀ q,(Instr.lookup 97 (.map (some mt)) (.int .i64 (enode f:Nat)) false).run Tryz.prog (W.drewN q)=.ok (.bool false) (W.drewN q):=fun q=>by
  have:=Zme (h.below (Zah W q)).map (enode f)
  rwa [decide_eq_false (show ¬ enode f∈met from hnm)] at this
 have hne6:mt≠nt:=h.ne.2.2.2.2.2;have HUP:Hid (∀ W',SnS F ⟨bm,bx,bn,bd,mt,nt,xb⟩ mb o m V met (tally m.d met) W'->∃ w',(Instr.mapUpdate 97 (.map (some mt)) (.int .i64 (enode f:Nat)) (.bool true)).run Tryz.prog W'=.ok () w'/\Wr (SnC.two ⟨bm,bx,bn,bd,mt,nt,xb⟩) W' w'/\SnS F ⟨bm,bx,bn,bd,mt,nt,xb⟩ mb o m V (met++[f/2]) (tally m.d met) w'):=Hd fun W' g=>by
  obtain⟨w',r1,r2,r3⟩:=Zuo g.map (f:=enode f) hnm;have hw:Wr (· = mt) W' w':=Wr.of_grown r3 _ (fun k e=>by cases e;rfl);have hw2:Wr (SnC.two ⟨bm,bx,bn,bd,mt,nt,xb⟩) W' w':=hw.mono (fun _ e=>.inl e);exact⟨w',r1,hw2,g.go hw2 r2 (g.cnt.keepB (hw.keep _ g.cnt.lt (fun e=>hne6 e.symm))) hmok2⟩
 have HCT:Hid (∀ W',SnS F ⟨bm,bx,bn,bd,mt,nt,xb⟩ mb o m V (met++[f/2]) (tally m.d met) W'->(Instr.lookup 158 (.map (some nt)) (.int .i64 (bv:Nat)) false).run Tryz.prog W'=.ok (.int .i64 (getC b.v (tally m.d met):Nat)) W'):=Hd fun W' g=>by
  rw[hbv2];exact Zo0 g.cnt b.v
 have HCU:Hid (∀ W',SnS F ⟨bm,bx,bn,bd,mt,nt,xb⟩ mb o m V (met++[f/2]) (tally m.d met) W'->∃ w',(Instr.mapUpdate 158 (.map (some nt)) (.int .i64 (bv:Nat)) (.int .i64 ((getC b.v (tally m.d met):Nat)+1))).run Tryz.prog W'=.ok () w'/\Wr (SnC.two ⟨bm,bx,bn,bd,mt,nt,xb⟩) W' w'/\SnS F ⟨bm,bx,bn,bd,mt,nt,xb⟩ mb o m V (met++[f/2]) (tally m.d (met++[f/2])) w'):=Hd fun W' g=>by
  rw[hbv2];obtain⟨w',r1,r2,r3⟩:=Zv6 g.cnt b.v (c:=((getC b.v (tally m.d met):Nat):Int)+1) (by omega);have hw:Wr (· = nt) W' w':=Wr.of_grown r3 _ (fun k e=>by cases e;rfl);have hw2:Wr (SnC.two ⟨bm,bx,bn,bd,mt,nt,xb⟩) W' w':=hw.mono (fun _ e=>.inr e);rw[<- Zr0 met hb] at r2;exact⟨w',r1,hw2,g.go hw2 (g.map.keepB (hw.keep _ g.map.lt (fun e=>hne6 e))) r2 hmok2⟩
 have HTOP:Hid (∀ W' s,SnS F ⟨bm,bx,bn,bd,mt,nt,xb⟩ mb o m V (met++[f/2]) (tally m.d met) W'->W'.heap[s]?=some (.cells #[.int .i64 f] 83 (0,0))->Calls Tryz.prog 87 #[.pointer (some ⟨xb,0,none⟩),.slice (some ⟨s,0,none⟩) 1 1] W' fun x w'=>x=.returned (.int .i64 (bv:Nat))/\Below W'.heap.size W' w'):=Hd fun W' s g hs=>by
  refine(Zgk g.is g.lt g.x g.ok [f] (by simpa using hf) (some ⟨s,0,none⟩) 1 ⟨by simp,fun i hi'=>?_⟩).mono ?_
  ·
   obtain rfl:i=0:=by simpa using hi'
   exact⟨s,0,rfl,by rw[cell_of_row _ _ 0 _ _ _ hs];rfl⟩
  ·
   rintro x w' ⟨top,least,rfl,ht,hbel⟩;rcases Ztc ht with ⟨_,hn⟩|⟨b',hb',rfl⟩
   ·
    rw[hb] at hn;cases hn
   ·
    rw[hb] at hb';cases hb';exact⟨by rw[hbv2],hbel⟩
 have HSP:Hid (∀ W' cs,SnS F ⟨bm,bx,bn,bd,mt,nt,xb⟩ mb o m V (met++[f/2]) cs W'->Calls Tryz.prog 88 #[.pointer (some ⟨xb,0,none⟩),.int .i64 f,.int .i64 (bv:Nat)] W' fun x w'=>x=.returned (.tuple #[.int .i64 lo,.int .i64 hi])/\Below W'.heap.size W' w'):=Hd fun W' cs g=>by
  have:=Zek g.is g.lt g.x g.ok f hf (b.v:Nat);rw[<- hlo,<- hhi,<- hbv2] at this;exact this
 have HI1:Hid (∀ W',SnS F ⟨bm,bx,bn,bd,mt,nt,xb⟩ mb o m V (met++[f/2]) (tally m.d (met++[f/2])) W'->Calls Tryz.prog 151 #[.int .i64 lo,.pointer (some ⟨bm,0,none⟩),.pointer (some ⟨bx,0,none⟩),.pointer (some ⟨bn,0,none⟩),.pointer (some ⟨bd,0,none⟩)] W' (SnR F ⟨bm,bx,bn,bd,mt,nt,xb⟩ mb o m V (Zbu m.d k (met++[f/2]) lo) W')):=Hd fun W' g=>IH _ lo W' g q1 (by omega)
 have HI2:Hid (∀ W',SnS F ⟨bm,bx,bn,bd,mt,nt,xb⟩ mb o m V (Zbu m.d k (met++[f/2]) lo) (tally m.d (Zbu m.d k (met++[f/2]) lo)) W'->Calls Tryz.prog 151 #[.int .i64 hi,.pointer (some ⟨bm,0,none⟩),.pointer (some ⟨bx,0,none⟩),.pointer (some ⟨bn,0,none⟩),.pointer (some ⟨bd,0,none⟩)] W' (SnR F ⟨bm,bx,bn,bd,mt,nt,xb⟩ mb o m V (Zbu m.d k (Zbu m.d k (met++[f/2]) lo) hi) W')):=Hd fun W' g=>IH _ hi W' g q2 (by omega)
 have cbm:=h.bm;have HS:=Hd h;obtain⟨P,hP⟩:∃ P,P=SnR F ⟨bm,bx,bn,bd,mt,nt,xb⟩ mb o m V (Zbu m.d k (Zbu m.d k (met++[f/2]) lo) hi) W:=⟨_,rfl⟩;have HP:Hid (∀ x w',SnR F ⟨bm,bx,bn,bd,mt,nt,xb⟩ mb o m V (Zbu m.d k (Zbu m.d k (met++[f/2]) lo) hi) W x w'->P x w'):=Hd (by rw[hP];exact fun _ _ e=>e);have eg1:=Zm8;obtain⟨g0,hg0⟩:∃ g,g=getC b.v (tally m.d met):=⟨_,rfl⟩;rw[<- hg0] at hcl;have hwrap:IntKind.i64.wrap ((g0:Nat)+1)=(g0:Nat)+1:=IntWalk.i64_in _ ⟨by omega,by omega⟩;rw[<- hg0] at HCT HCU;rw[<- hP];unfold SnC.caps;clear hP h IH hb hnm hlev hf hlt hltA hbv hl hl2 q1 q2 q3 q4 h0 hlo hhi hbv2 hmok hmok2 hcl hg0 hne6
 show Calls _ _ #[_,_,_,_,_] _ _
 go_enter Tryz.func151,Tryz.ntmps151
 go_wp2_with fail
 go_quiet ((first|(with_reducible exact Za8 (HCON.out _))|(with_reducible exact Za8 (HNQ.out _))))
 go_upto_region 1 with fail;obtain⟨w1,hw1⟩:∃ w1,w1=(W.drewN nq).drew:=⟨_,rfl⟩;have hb1:Below W.heap.size W w1:=by rw[hw1];exact Zah W (nq+1)
 have HS1:=Hd (HS.out.below hb1);have HW1:=Hd (Wr.of_below hb1 (SnC.two ⟨bm,bx,bn,bd,mt,nt,xb⟩));have HWE:=Hd hw1;have cbm1:=HS1.out.bm;clear hw1 hb1;refine Zem [0,1,2,3] (fun W'=>W'.cell? ⟨bm,0,none⟩=some (.map (some mt))) (fun ch w'=>False) (fun c a w hd h=>h.elim) (by kernel_rfl) (by rw[<- HWE.out];exact cbm1) ?_;rw[<- HWE.out]
 iterate 2
  refine Zcr rfl rfl (by kernel_rfl) ?_;apply Exists.intro;refine⟨fun w' hw=>?_,?_⟩
  ·
   have q1:w'.cell? ⟨bm,0,none⟩=some (.map (some mt)):=hw;go_simp;rfl
  simp only[Zag]
 refine Zbb (R1:=fun u w'=>u=.int .i64 (enode f:Nat)/\w1=w') rfl (by kernel_rfl) rfl rfl (by go_simp) ((HND.out w1).mono fun x w' h=>⟨_,h.1,rfl,h.2⟩) (by rintro u w' ⟨_,rfl⟩;exact cbm1) ?_;rintro u w'-⟨rfl,rfl⟩;simp only[Zag];obtain⟨w2,hrun,hw2,hs2⟩:=HUP.out w1 HS1.out;have HS2:=Hd hs2;have HW2:=Hd (HW1.out.trans hw2 (fun _ _ e=>e) (fun _ _ e=>e));refine Zxm (w':=w2) rfl (by kernel_rfl) rfl rfl (by go_simp) HS2.out.bm ?_;simp only[Zag];refine Zi8 (by kernel_rfl) ?_;clear hrun hw2 hs2 cbm1 cbm;have cbx:=HS2.out.bx;have hb4:=Zaf w2 (.cells #[.int .i64 f] 83);obtain⟨w4,hw4⟩:∃ w4,w4=w2.alloc (.cells #[.int .i64 f] 83):=⟨_,rfl⟩;rw[<- hw4] at hb4;have HWE4:=Hd hw4;have hrow:w4.heap[w2.heap.size]?=some (.cells #[.int .i64 f] 83 (0,0)):=by rw[hw4];exact heap_alloc_new _ _
 have HS4:=Hd (HS2.out.below hb4);have HW4:=Hd (HW2.out.trans (Wr.of_below hb4 _) (fun _ _ e=>e) (fun _ _ e=>e));have HT4:=Hd (HTOP.out w4 _ HS4.out hrow);have HT5:Hid (Calls Tryz.prog 87 #[.pointer (some ⟨xb,0,none⟩),.slice (some ⟨w2.heap.size,0,none⟩) 1 1] (w2.alloc (.cells #[.int .i64 f] 83)) fun x w'=>x=.returned (.int .i64 (bv:Nat))/\Below w4.heap.size w4 w'):=Hd (by have:=HT4.out;rw[hw4] at this ⊢;exact this);clear hb4 hw4 hrow HT4;go_wp2_with fail;refine HT5.out.mono ?_;rintro x w5 ⟨rfl,hb5⟩;have HS5:=Hd (HS4.out.below hb5);have HW5:=Hd (HW4.out.trans (Wr.of_below hb5 _) (fun _ _ e=>e) (fun _ _ e=>e));have cbn5:=HS5.out.bn;have hlk5:=HCT.out w5 HS5.out;obtain⟨w6,hup6,hw6,hs6⟩:=HCU.out w5 HS5.out;have HS6:=Hd hs6;have HW6:=Hd (HW5.out.trans hw6 (fun _ _ e=>e) (fun _ _ e=>e));have cbx6:=hs6.bx;have HSP6:=Hd (HSP.out w6 _ hs6);clear hb5 hw6 hs6 HT5 cbx HS4 HW4 HS2 HW2 HS1 HW1 HWE4 hlk;go_wp2_with fail;refine HSP6.out.mono ?_;rintro x w7 ⟨rfl,hb7⟩;have HS7:=Hd (HS6.out.below hb7);have HW7:=Hd (HW6.out.trans (Wr.of_below hb7 _) (fun _ _ e=>e) (fun _ _ e=>e));have cbd:=HS7.out.bd;unfold SnC.caps at cbd;have HC1:=Hd (HI1.out w7 HS7.out);clear hb7 HS5 HW5 HI1 HTOP HSP HUP HND HNQ HCON HCT HCU HS6 HW6 hlk5 hup6 cbx6 cbn5 HSP6;go_wp2_with fail;refine HC1.out.mono ?_;rintro x w8 ⟨rfl,hw8,hs8⟩;have HS8:=Hd hs8;have HW8:=Hd (HW7.out.trans hw8 (fun _ _ e=>e) (fun _ _ e=>e));have HC2:=Hd (HI2.out w8 hs8);have cbd8:=hs8.bd;unfold SnC.caps at cbd8;clear hw8 hs8 cbd HC1 HI2 HS7 HW7;go_wp2_with fail;refine HC2.out.mono ?_;rintro x w9 ⟨rfl,hw9,hs9⟩;have HF:=Hd (HP.out (.returned (.tuple #[])) w9 ⟨rfl,HW8.out.trans hw9 (fun _ _ e=>e) (fun _ _ e=>e),hs9⟩);clear hw9 hs9 cbd8 HC2 HS8 HW8 HP;go_wp2_with fail;refine bodyPost_end (results_none rfl _ _ _) rfl ?_;exact HF.out
theorem Zs0:∀ (k:Nat) (met:List Nat) (f:Nat) (W:World),SnS F c mb o m V met (tally m.d met) W->okE (Zaa m.d) f->m.d.vars.length<=lvE m.d.vars.length (levN m.d) (Zaa m.d) f+k->Calls Tryz.prog 151 (#[.int .i64 (f:Nat)]++c.caps) W (SnR F c mb o m V (Zbu m.d k met f) W)
 | 0,met,f,W,h,hf,hl=>by
   refine Zkz h hf (.inl ?_);rcases hf with h1|⟨b,hb⟩
   ·
    exact h1
   ·
    exfalso;have h1:=h.ok.dag.lt b.v (h.ok.dag.var _ _ hb);unfold lvE at hl;rw[hb] at hl;simp at hl;omega
 | k+1,met,f,W,h,hf,hl=>by
   unfold Zbu;cases hb:Zaa m.d (f/2) with
   | none =>
     refine Zkz h hf (.inl ?_);rcases hf with h1|⟨b,hb'⟩
     ·
      exact h1
     ·
      rw[hb] at hb';cases hb'
   | some b =>
     show Calls _ _ _ _ (SnR F c mb o m V (if f/2∈met then met else _) W)
     by_cases hm:f/2∈met
     ·
      rw[if_pos hm];exact Zkz h hf (.inr hm)
     ·
      rw[if_neg hm];exact Yck (fun met f W=>Zs0 k met f W) h hb hm hl
end
open Go.RowKit
theorem Zo7 (args:Array Value) (w:World):(callFunc 150 args).run Tryz.prog w=.ok (.enter 150 args) w:=enters_of Tryz.func150 (by kernel_rfl) rfl args w
structure BoN (wB:World) (bn bl:Nat) (a:Option Addr) (c:Nat) (ks:List Int) (W:World):Prop where
 n:∃ v,W.heap[bn]?=some (.cells #[v] 158 (0,0))
 l:W.cell? ⟨bl,0,none⟩=some (.slice a ks.length c)
 z:Zay W a ks
 s:∀ x,a=some x->W.heap[x.block]?=wB.heap[x.block]?
def CsN (bn bl:Nat) (a:Option Addr) (k:Nat):Prop:=k=bn\/k=bl\/∃ x,a=some x/\k=x.block
theorem BoN.keep {wB:World} {bn bl c:Nat} {a:Option Addr} {ks:List Int} {W W':World} (h:BoN wB bn bl a c ks W) (hk:∀ k,CsN bn bl a k->W'.heap[k]?=W.heap[k]?):BoN wB bn bl a c ks W' :=
 ⟨by rw[hk _ (.inl rfl)];exact h.n,(World.cell?_of_block (w:=W) (a:=⟨bl,0,none⟩) (hk _ (.inr (.inl rfl)))).trans h.l,⟨h.z.len,fun i hi=>by
  obtain⟨b,off,e,hc⟩:=h.z.cells i hi;exact⟨b,off,e,(World.cell?_of_block (w:=W) (a:=⟨b,off+i,none⟩) (hk _ (.inr (.inr ⟨_,e,rfl⟩)))).trans hc⟩⟩,fun x hx=>(hk _ (.inr (.inr ⟨x,hx,rfl⟩))).trans (h.s x hx)⟩
section
variable {K:Law} {n:Nat} {Od:List Nat->Prop} {room:Nat} {w0 w:World} {mb xb:Nat} {fs:List (Int×BF)} {nx:Int} {o:Own} {m:ManD} {V:Nat->BF}
theorem SatE.edges (h:SatE K n Od room w0 mb fs nx w o m V) {ks:List Int} {Fs:List BF} (hlen:Fs.length=ks.length) (hm:∀ i (h:i<ks.length),(ks[i],Fs[i]'(by omega))∈fs) :
 ∃ es:List Nat,es.length=ks.length/\es.map (ef V)=Fs/\(∀ f∈es,okE (Zaa m.d) f)/\∀ i (h:i<ks.length) (h2:i<es.length),(ks[i],es[i])∈m.hs:=by
 have:∀ i,∃ f,∀ hi:i<ks.length,(ks[i],f)∈m.hs/\ef V f=Fs[i]'(by omega):=fun i=>by
  by_cases hi:i<ks.length
  ·
   obtain⟨f,h1,h2⟩:=h.find (hm i hi);exact⟨f,fun _=>⟨h1,h2⟩⟩
  ·
   exact⟨0,fun e=>absurd e hi⟩
 have hs:=fun i=>Classical.choose_spec (this i)
 refine⟨(List.range ks.length).map fun i=>Classical.choose (this i),by simp,?_,?_,?_⟩
 ·
  refine List.ext_getElem (by simp[hlen]) fun i h1 h2=>?_
  have hi:i<ks.length:=by simpa using h1
  simpa using(hs i hi).2
 ·
  intro f hf;obtain⟨i,hi,rfl⟩:=List.mem_map.1 hf;exact h.ok.handles.ok _ (hs i (List.mem_range.1 hi)).1
 ·
  intro i hi h2;simpa using(hs i hi).1
def Zvf (n:Nat) (ws0:List Ev) (os:List Nat) (bn:Nat) (Fs:List BF) (s:Nat) (W:World) (m:ManD) (_:Nat->BF):Prop :=
 m.waits=ws0/\m.d.vars=os/\∃ nt cs,s<=nt/\W.cell? ⟨bn,0,none⟩=some (.map (some nt))/\Zaz W nt (Value.int .i64) (ctL cs)/\Zyx n os Fs cs
theorem Zx3 {wB:World} {bn bl c:Nat} {a:Option Addr} {ks:List Int} {Fs:List BF} (hnl:bn≠bl) (hna:∀ x,a=some x->bn≠x.block) (hlen:Fs.length=ks.length) (hm:∀ i (h:i<ks.length),(ks[i],Fs[i]'(by omega))∈fs) (ws0:List Ev) (os:List Nat) (E:Int->ManD->ManD->Prop) :
 OpLN K n Od room w0 mb fs nx (CsN bn bl a) (BoN wB bn bl a c ks) (fun m=>m.waits=ws0/\m.d.vars=os) 150 #[.pointer (some ⟨bn,0,none⟩),.pointer (some ⟨bl,0,none⟩)] (fun s _=>Zvf n ws0 os bn Fs s) E:=by
 intro o W m V xb hsat hB hC hst hcx hnx;obtain⟨hws,hos⟩:=hst;obtain⟨es,hel,hef,heok,heh⟩:=hsat.edges hlen hm;have hk:=hsat.ok.store;have hno:∀ k,CsN bn bl a k->o k=none:=fun k e=>(hC k e).2
 obtain⟨v0,hv0⟩:=hB.n;have hmf:∀ (fn:Fn) (first cap:Array Value) (w:World),(Instr.makeFunc fn first cap).run Tryz.prog w=.ok (.func fn first cap) w:=fun _ _ _ _=>rfl
 have hbnl:bn<W.heap.size:=(hC bn (.inl rfl)).1;have hbll:bl<W.heap.size:=(hC bl (.inr (.inl rfl))).1;obtain⟨w1,hw1⟩:∃ w1,w1=W.alloc (.cells #[.pointer (some ⟨xb,0,none⟩)] 115):=⟨_,rfl⟩;have hz1:w1.heap.size=W.heap.size+1:=by rw[hw1];simp
 have g10:w1.heap[W.heap.size]?=some (.cells #[.pointer (some ⟨xb,0,none⟩)] 115 (0,0)):=by rw[hw1];exact heap_alloc_new _ _
 have hr1:Wr (· = bn) W w1:=by rw[hw1];exact Wr.of_below (Zaf _ _) _
 obtain⟨nt,hnt⟩:∃ nt,nt=w1.heap.size:=⟨_,rfl⟩;obtain⟨w2,hw2⟩:∃ w2,w2=w1.alloc (.map #[] 0):=⟨_,rfl⟩;have hmk1:∀ t,(Instr.makeMap t none).run Tryz.prog w1=.ok (.map (some nt)) w2:=fun t=>by rw[hnt,hw2];exact Zb2 w1 t
 have hz2:w2.heap.size=W.heap.size+2:=by rw[hw2];simp[hz1]
 have hm2:Zaz w2 nt (Value.int .i64) (ctL []):=by rw[hw2,hnt];exact Zd7 w1 _
 have hr2:Wr (· = bn) W w2:=by rw[hw2];exact hr1.alloc _
 have hb2:w2.heap[bn]?=some (.cells #[v0] 158 (0,0)):=by
  rw[hw2,Go.heap_alloc_old _ _ (by omega),hw1,Go.heap_alloc_old _ _ hbnl];exact hv0
 obtain⟨w3,hw3⟩:∃ w3,w3=w2.setCell ⟨bn,0,none⟩ (.map (some nt)):=⟨_,rfl⟩;have hs3:(store ⟨bn,0,none⟩ (.map (some nt))).run Tryz.prog w2=.ok () w3:=by
  rw[run_store _ _ _ _ _ rfl];simp[cell1 hb2,World.frozen?,hb2,hw3]
 have hz3:w3.heap.size=W.heap.size+2:=by rw[hw3];simp[World.setCell,hz2]
 have hk3:∀ q,q≠bn->w3.heap[q]?=w2.heap[q]?:=fun q hq=>by rw[hw3];exact Zad hq _
 have g3:w3.heap[bn]?=some (.cells #[.map (some nt)] 158 (0,0)):=by rw[hw3];exact Zae hb2 _
 have hr3:Wr (· = bn) W w3:=by rw[hw3];exact hr2.setCell (.inl rfl) _
 have hm3:Zaz w3 nt (Value.int .i64) (ctL []):=hm2.keepB (hk3 nt (by omega));obtain⟨mt,hmt⟩:∃ mt,mt=w3.heap.size:=⟨_,rfl⟩;obtain⟨w4,hw4⟩:∃ w4,w4=w3.alloc (.map #[] 0):=⟨_,rfl⟩;have hmk2:∀ t,(Instr.makeMap t none).run Tryz.prog w3=.ok (.map (some mt)) w4:=fun t=>by rw[hmt,hw4];exact Zb2 w3 t
 have hz4:w4.heap.size=W.heap.size+3:=by rw[hw4];simp[hz3]
 have hm4:Zaz w4 mt (Value.int .i64) (mtL []):=by rw[hw4,hmt];exact Zd7 w3 _
 have hbl4:Below w3.heap.size w3 w4:=by rw[hw4];exact Zaf _ _
 obtain⟨w6,hw6⟩:∃ w6,w6=w4.alloc (.cells #[.map (some mt)] 97):=⟨_,rfl⟩;have hbl6:Below w4.heap.size w4 w6:=by rw[hw6];exact Zaf _ _
 have hz6:w6.heap.size=W.heap.size+4:=by rw[hw6];simp[hz4]
 have g6:w6.heap[w4.heap.size]?=some (.cells #[.map (some mt)] 97 (0,0)):=by rw[hw6];exact heap_alloc_new _ _
 obtain⟨FV,hFV⟩:∃ FV:Value,FV=.func (.func 151) #[] #[.pointer (some ⟨w4.heap.size,0,none⟩),.pointer (some ⟨W.heap.size,0,none⟩),.pointer (some ⟨bn,0,none⟩),.pointer (some ⟨w6.heap.size,0,none⟩)]:=⟨_,rfl⟩;obtain⟨w7,hw7⟩:∃ w7,w7=w6.alloc (.cells #[.nilFunc] 197):=⟨_,rfl⟩;have hbl7:Below w6.heap.size w6 w7:=by rw[hw7];exact Zaf _ _
 have hz7:w7.heap.size=W.heap.size+5:=by rw[hw7];simp[hz6]
 have hb7:w7.heap[w6.heap.size]?=some (.cells #[.nilFunc] 197 (0,0)):=by rw[hw7];exact heap_alloc_new _ _
 obtain⟨w8,hw8⟩:∃ w8,w8=w7.setCell ⟨w6.heap.size,0,none⟩ FV:=⟨_,rfl⟩;have hs8:(store ⟨w6.heap.size,0,none⟩ FV).run Tryz.prog w7=.ok () w8:=by
  rw[run_store _ _ _ _ _ (by rw[hFV];rfl)];simp[cell1 hb7,World.frozen?,hb7,hw8]
 have hz8:w8.heap.size=W.heap.size+5:=by rw[hw8];simp[World.setCell,hz7]
 have hbl8:Below w6.heap.size w6 w8:=by rw[hw8];exact hbl7.setCell (Nat.le_refl _) _
 have g8:w8.heap[w6.heap.size]?=some (.cells #[FV] 197 (0,0)):=by rw[hw8];exact Zae hb7 _
 have hr4:Wr (· = bn) W w4:=by rw[hw4];exact hr3.alloc _
 have hr6:Wr (· = bn) W w6:=by rw[hw6];exact hr4.alloc _
 have hr7:Wr (· = bn) W w7:=by rw[hw7];exact hr6.alloc _
 have hr8:Wr (· = bn) W w8:=by rw[hw8];exact hr7.setCell (.inr (by show W.heap.size<=w6.heap.size;omega)) _
 have hold:∀ q,q<w3.heap.size->w8.heap[q]?=w3.heap[q]?:=fun q hq=>by
  rw[hbl8.block q (by omega),hbl6.block q (by omega),hbl4.block q hq]
 have e4:w8.heap[w4.heap.size]?=some (.cells #[.map (some mt)] 97 (0,0)):=by
  rw[hbl8.block _ (by omega)];exact g6
 have em:Zaz w8 mt (Value.int .i64) (mtL []):=hm4.keepB (by rw[hbl8.block _ (by omega),hbl6.block _ (by omega)]);have en:Zaz w8 nt (Value.int .i64) (ctL []):=hm3.keepB (hold nt (by omega));have ex:w8.heap[W.heap.size]?=some (.cells #[.pointer (some ⟨xb,0,none⟩)] 115 (0,0)):=by
  rw[hold _ (by omega),hk3 _ (by omega),hw2,Go.heap_alloc_old _ _ (by omega)];exact g10
 have eb:w8.heap[bn]?=some (.cells #[.map (some nt)] 158 (0,0)):=by rw[hold _ (by omega)];exact g3
 have hxl:xb<W.heap.size:=Zab hcx.cell;have hxbn:xb≠bn:=fun e=>hnx (.inl e)
 have oS:∀ q,W.heap.size<=q->o q=none:=fun q hq=>hsat.lt.none hq
 have hs:SnS (K m.d V) ⟨w4.heap.size,W.heap.size,bn,w6.heap.size,mt,nt,xb⟩ mb o m V [] (tally m.d []) w8:=by
  refine⟨hsat.is.other hsat.lt hr8 (fun k _ e=>by subst e;exact hno _ (.inl rfl)),hsat.lt.mono hr8.size,hk,⟨(World.cell?_of_block (w:=W) (a:=⟨xb,0,none⟩) (hr8.keep xb hxl hxbn)).trans hcx.cell,hcx.own⟩,cell1 e4,cell1 ex,cell1 eb,?_,em,en,?_,?_,?_,⟨List.nodup_nil,by simp⟩⟩
  ·
   rw[cell1 g8,hFV];rfl
  ·
   rintro q (e|e|e|e|e|e)
   ·
    have e:q=w4.heap.size:=e;exact oS _ (by omega)
   ·
    have e:q=W.heap.size:=e;exact oS _ (by omega)
   ·
    have e:q=bn:=e;exact hno _ (.inl e)
   ·
    have e:q=w6.heap.size:=e;exact oS _ (by omega)
   ·
    have e:q=mt:=e;exact oS _ (by omega)
   ·
    have e:q=nt:=e;exact oS _ (by omega)
  ·
   refine⟨?_,?_,?_,?_,?_,?_⟩
   ·
    show mt≠w4.heap.size;omega
   ·
    show mt≠W.heap.size;omega
   ·
    show mt≠bn;omega
   ·
    show mt≠w6.heap.size;omega
   ·
    show mt≠xb;omega
   ·
    show mt≠nt;omega
  ·
   refine⟨?_,?_,?_,?_,?_⟩
   ·
    show nt≠w4.heap.size;omega
   ·
    show nt≠W.heap.size;omega
   ·
    show nt≠bn;omega
   ·
    show nt≠w6.heap.size;omega
   ·
    show nt≠xb;omega
 obtain⟨C,hCd⟩:∃ C:SnC,C=⟨w4.heap.size,W.heap.size,bn,w6.heap.size,mt,nt,xb⟩:=⟨_,rfl⟩;have hCc:C.caps=#[.pointer (some ⟨w4.heap.size,0,none⟩),.pointer (some ⟨W.heap.size,0,none⟩),.pointer (some ⟨bn,0,none⟩),.pointer (some ⟨w6.heap.size,0,none⟩)]:=by rw[hCd];rfl
 have hCt:∀ k,C.two k->W.heap.size<=k:=by
  rw[hCd];rintro k (e|e)
  ·
   have e:k=mt:=e;omega
  ·
   have e:k=nt:=e;omega
 rw[<- hCd] at hs;have hzl:=hB.z.len;have clist:w8.cell? ⟨bl,0,none⟩=some (.slice a ks.length c):=(World.cell?_of_block (w:=W) (a:=⟨bl,0,none⟩) (hr8.keep bl hbll (fun e=>hnl e.symm))).trans hB.l;obtain⟨I,hI⟩:∃ I:Nat->World->Prop,I=fun i wr=>Wr (· = bn) W wr/\wr.heap[bn]?=some (.cells #[.map (some nt)] 158 (0,0))/\SnS (K m.d V) C mb o m V (Zll m.d (es.take i)) (tally m.d (Zll m.d (es.take i))) wr:=⟨_,rfl⟩
 have HI0:Hid (I 0 w8):=by rw[hI];exact Hd ⟨hr8,eb,by simpa [Zll] using hs⟩
 have HX:Hid (∀ i wr,I i wr->wr.cell? ⟨W.heap.size,0,none⟩=some (.pointer (some ⟨xb,0,none⟩))/\wr.cell? ⟨w6.heap.size,0,none⟩=some (.func (.func 151) #[] C.caps)/\(∀ j,j<ks.length->∃ b off,a=some ⟨b,off,none⟩/\wr.cell? ⟨b,off+j,none⟩=some (.int .i64 (at0 ks j)))/\I i wr.drew):=by
  rw[hI];refine Hd fun i wr hh=>?_
  obtain⟨h1,hbb,h2⟩:=hh;have hx:=h2.bx;have hd:=h2.bd;rw[hCd] at hx;refine⟨hx,?_,fun j hj=>?_,h1.drew,hbb,h2.below (Zah wr 1)⟩
  ·
   rw[hCd] at hd ⊢;exact hd
  ·
   obtain⟨b,off,e,hc⟩:=hB.z.cells j hj;exact⟨b,off,e,(World.cell?_of_block (w:=W) (a:=⟨b,off+j,none⟩) (h1.keep b (hC b (.inr (.inr ⟨_,e,rfl⟩))).1 (fun q=>hna _ e q.symm))).trans hc⟩
 have HSTEP:Hid (∀ i wr,i<ks.length->I i wr->∃ f,Calls Tryz.prog 56 #[.pointer (some ⟨xb,0,none⟩),.int .i64 (at0 ks i)] wr (fun x w'=>x=.returned (.int .i64 (f:Nat))/\wr=w') /\
  Calls Tryz.prog 151 (#[.int .i64 (f:Nat)]++C.caps) wr fun x w'=>x=.returned (.tuple #[])/\I (i+1) w'):=by
  rw[hI];refine Hd fun i wr hi hh=>?_
  obtain⟨h1,hbb,h2⟩:=hh;have hi2:i<es.length:=by omega
  have hxx:=h2.x;rw[hCd] at hxx;refine⟨es[i],by rw[Zb0 hi];exact Zcf h2.is hxx hsat.ok.handles.nodup (heh i hi hi2),?_⟩;refine(Zs0 m.d.vars.length _ _ wr h2 (heok _ (List.getElem_mem hi2)) (by omega)).mono ?_;rintro x w' ⟨rfl,r1,r2⟩;refine⟨rfl,h1.trans r1 (fun _ _ e=>e) (fun k hk e=>by have:=hCt k e;omega),(r1.keep bn (by have:=h1.size;omega) (fun e=>by have:=hCt bn e;omega)).trans hbb,?_⟩;rw[Zuw es hi2];exact r2
 obtain⟨P,hP⟩:∃ P:Ending->World->Prop,P=fun e w'=>∃ (o':Own) (m':ManD) (V':Nat->BF),Zhj (CsN bn bl a) K o W mb m V o' w' m' V'/\BoN wB bn bl a c ks w' /\
  ((e=.returned (.tuple #[])/\Zvf n ws0 os bn Fs W.heap.size w' m' V') \/
   (∃ er:Int,e=Zb8 er false ev0/\er≠0/\m'.waits=m.waits/\(m'.waits=ws0/\m'.d.vars=os)/\E er m m') \/
   (∃ ev,e=Zb8 0 true ev/\m.waits=ev::m'.waits/\StE K n Od room w0 mb fs nx (fun m=>m.waits=ws0/\m.d.vars=os) m'/\HapG K n Od room w0 mb fs nx ev)):=⟨_,rfl⟩
 have HFIN:Hid (∀ wr,I ks.length wr->P (.returned (.tuple #[])) wr):=by
  rw[hI,hP];refine Hd fun wr hh=>?_
  obtain⟨h1,hbb,h2⟩:=hh;rw[<- hel,List.take_length] at h2;have hcn:=h2.bn;have hmm:=h2.cnt;rw[hCd] at hcn hmm;refine⟨o,m,V,⟨h2.is,h2.lt,ChgX.of_wr h1 o (fun k _ e=>.inl e),hk,Ext.refl _ _,rfl,rfl⟩,⟨?_,?_,⟨hzl,fun i hi=>?_⟩,fun x hx=>?_⟩,.inl ⟨rfl,hws,hos,nt,_,by omega,hcn,hmm,?_⟩⟩
  ·
   exact⟨_,hbb⟩
  ·
   exact(World.cell?_of_block (w:=W) (a:=⟨bl,0,none⟩) (h1.keep bl hbll (fun e=>hnl e.symm))).trans hB.l
  ·
   obtain⟨b,off,e,hc⟩:=hB.z.cells i hi;exact⟨b,off,e,(World.cell?_of_block (w:=W) (a:=⟨b,off+i,none⟩) (h1.keep b (hC b (.inr (.inr ⟨_,e,rfl⟩))).1 (fun q=>hna _ e q.symm))).trans hc⟩
  ·
   exact(h1.keep _ (hC _ (.inr (.inr ⟨x,hx,rfl⟩))).1 (fun q=>hna x hx q.symm)).trans (hB.s x hx)
  ·
   have:=Zz2 hk es heok (fun e he=>Zgl hsat.is he);rw[hsat.vars,hef,hos] at this;exact this
 have HW1:=Hd hw1.symm;have HW3:=Hd hw3.symm;have HW4:=Hd hw4.symm;have c2:=cell1 hb2;have f2:w2.frozen? ⟨bn,0,none⟩=false:=by simp[World.frozen?,hb2]
 have HW6:=Hd hw6.symm;rw[hFV,hw7] at hs8;rw[<- hP];rw[hCc] at HX HSTEP;clear hP hI hs hsat hB hC hcx hnx hef heok heh hk hno hv0 hbnl hbll hw1 hw2 hw3 hw4 hw6 hw7 hw8 hz1 hz2 hz3 hz4 hz6 hz7 hz8 g10 hr1 hm2 hr2 hr4 hr6 hr7 hb2 hb7 hbl7 hk3 g3 hr3 hm3 hm4 hbl4 hbl6 g6 hFV hbl8 g8 hr8 hold e4 em en ex eb hxl hxbn oS hCd hCc hCt hnt hmt hlen hm hel hws hos
 go_enter Tryz.func150,Tryz.ntmps150
 go_upto_region 1 with fail;rw[HW1.out];go_upto_region 2 with fail;rw[HW3.out];clear c2 f2 hmk1 hs3;go_upto_region 3 with fail;rw[HW6.out];clear hmk2;go_upto_region 5 with fail;clear hs8;go_wp2_with fail
 go_loopw [7,13] (fun _ s13 wr=>∃ i:Nat,i<=ks.length/\s13=.int .i64 i/\Hid (I i wr)) (fun _ s13 _=>ks.length-(intOf s13).toNat)
 case atStart=>exact⟨0,Nat.zero_le _,rfl,HI0⟩
 case round =>
  obtain⟨i,hi,rfl,HI⟩:=hrel
  by_cases hlt:i<ks.length
  ·
   have hiz:(i:Int)<(ks.length:Int):=by omega
   obtain⟨x1,x2,x3,x4⟩:=HX.out i _ HI.out;obtain⟨b,off,rfl,ck⟩:=x3 i hlt;have HD:=Hd (HX.out i _ x4);obtain⟨f,hE,hS⟩:=HSTEP.out i _ hlt x4;have HE:=Hd hE;have HS:=Hd hS;have HX2:=HX;clear hE hS x1 x2 x3 x4 HX HSTEP HFIN HI HI0 clist;go_upto_region 8 with fail;obtain⟨wz,hwz⟩:∃ wz,wz=wr.drew:=⟨_,rfl⟩;rw[<- hwz] at HD HE HS;have HWZ:=Hd hwz;clear hwz;have hd1:=HD.out.1;have hd2:=HD.out.2.1;refine Zem [0,1,2,3,4] (fun W'=>W'.cell? ⟨W.heap.size,0,none⟩=some (.pointer (some ⟨xb,0,none⟩))/\W'.cell? ⟨w6.heap.size,0,none⟩=some (.func (.func 151) #[] #[.pointer (some ⟨w4.heap.size,0,none⟩),.pointer (some ⟨W.heap.size,0,none⟩),.pointer (some ⟨bn,0,none⟩),.pointer (some ⟨w6.heap.size,0,none⟩)])) (fun ch w'=>False) (fun c a w hd h=>h.elim) (by kernel_rfl) (by rw[<- HWZ.out];exact⟨hd1,hd2⟩) ?_;rw[<- HWZ.out]
   iterate 3
    refine Zcr rfl rfl (by kernel_rfl) ?_;apply Exists.intro;refine⟨fun w' hw=>?_,?_⟩
    ·
     obtain⟨q1,q2⟩:=hw;go_simp;rfl
    simp only[Zag]
   refine Zbb (R1:=fun u w'=>u=.int .i64 (f:Nat)/\wz=w') rfl (by kernel_rfl) rfl rfl (by go_simp) (HE.out.mono fun x w' h=>⟨_,h.1,rfl,h.2⟩) (by rintro u w' ⟨_,rfl⟩;exact⟨hd1,hd2⟩) ?_;rintro u w'-⟨rfl,rfl⟩;simp only[Zag];refine Zbb (R1:=fun u w'=>u=.tuple #[]/\I (i+1) w') rfl (by kernel_rfl) rfl rfl (by go_simp) (HS.out.mono fun x w' h=>⟨_,h.1,rfl,h.2⟩) (by rintro u w' ⟨_,hI⟩;exact⟨(HX2.out (i+1) w' hI).1,(HX2.out (i+1) w' hI).2.1⟩) ?_;rintro u w9-⟨rfl,hI9⟩;have HI9:=Hd hI9;clear hI9 HX2 HS HE HD hd1 hd2 HWZ;simp only[Zag];refine Zi8 (by kernel_rfl) ?_;go_wp2_with fail;go_roundw
   case rel=>exact⟨i+1,by omega,by rw[show ((i+1:Nat):Int)=(i:Int)+1 by omega],HI9⟩
   case measure=>simp[intOf];omega
  ·
   obtain rfl:i=ks.length:=by omega
   have hnlt:¬ (ks.length:Int)<(ks.length:Int):=by omega
   have HF:=Hd (HFIN.out _ HI.out);clear HX HSTEP HFIN HI HI0;go_wp2_with fail;refine bodyPost_end (results_none rfl _ _ _) rfl ?_;exact HF.out
end
open Go.RowKit
structure ArgI (w0 w:World) (o:Own) (a:Option Addr) (ks:List Int):Prop where
 z:Zay w a ks
 own:∀ x,a=some x->x.block<w.heap.size/\w0.heap.size<=x.block/\o x.block=none
theorem Zjb {w:World} {b:Nat} {v:Value} {t:TypeId} {fr:Nat×Nat} (h:w.heap[b]?=some (.cells #[v] t fr)):w.setCell ⟨b,0,none⟩ v=w:=by
 have:w.heap.modify b (fun|.cells c elem frozen=>.cells (c.setIfInBounds 0 v) elem frozen|o=>o)=w.heap:=by
  apply Array.ext_getElem?;intro i;rw[Array.getElem?_modify];split
  ·
   rename_i e
   subst e;rw[h];rfl
  ·
   rfl
 show ({ w with heap:=w.heap.modify b (fun|.cells c elem frozen=>.cells (c.setIfInBounds 0 v) elem frozen|o=>o) }:World)=w
 rw[this]
section
variable {K:Law} {n:Nat} {Od:List Nat->Prop} {room:Nat} {w0 w:World} {mb:Nat} {fs:List (Int×BF)} {nx:Int} {o:Own} {m:ManD} {V:Nat->BF}
def Ybe (K:Law) (n:Nat) (Od:List Nat->Prop) (room:Nat) (w0:World) (mb:Nat) (fs:List (Int×BF)) (nx:Int) (m:ManD) (o:Own) (w:World) (Fs:List BF) (x:Ending) (w':World):Prop :=
 ∃ nt cs,x=.returned (.tuple #[.map (some nt),.int .i64 0])/\Zaz w' nt (Value.int .i64) (ctL cs)/\Zyx n m.d.vars Fs cs/\∃ o' m' V',ChgX NoB o o' w w'/\m'.waits=m.waits/\m'.d.vars=m.d.vars/\SatE K n Od room w0 mb fs nx w' o' m' V'
theorem Zux {ws0:List Ev} {os:List Nat} {bn s:Nat} {Fs:List BF} {W W':World} {m:ManD} {V:Nat->BF} (hb:bn<s) (hz:s+3<=W.heap.size) (h:Zvf n ws0 os bn Fs (s+3) W m V) (a:Ali s W W'):Zvf n ws0 os bn Fs 0 W' m V:=by
 obtain⟨h1,h2,nt,cs,h3,h4,h5,h6⟩:=h;exact⟨h1,h2,nt,cs,Nat.zero_le _,(World.cell?_of_block (w:=W) (a:=⟨bn,0,none⟩) (a.keep bn (by omega) (by omega))).trans h4,h5.keepB (a.keep nt h5.lt (by omega)),h6⟩
theorem Zzz (h:SatE K n Od room w0 mb fs nx w o m V) {c:Nat} {a:Option Addr} {ks:List Int} {Fs:List BF} (hl:ArgI w0 w o a ks) (hlen:Fs.length=ks.length) (hm:∀ i (h:i<ks.length),(ks[i],Fs[i]'(by omega))∈fs) :
 Calls Tryz.prog 117 #[.pointer (some ⟨mb,0,none⟩),.slice a ks.length c] w (Ybe K n Od room w0 mb fs nx m o w Fs):=by
 have hmf:∀ (fn:Fn) (first cap:Array Value) (w:World),(Instr.makeFunc fn first cap).run Tryz.prog w=.ok (.func fn first cap) w:=fun _ _ _ _=>rfl
 have hw0:=h.chg.size;obtain⟨w2,hw2⟩:∃ w2,w2=(w.alloc (.cells #[.slice a ks.length c] 22)).alloc (.cells #[.map none] 158):=⟨_,rfl⟩;have hb2:Below w.heap.size w w2:=by rw[hw2];exact(Zaf _ _).alloc (by simp) _
 have hz2:w2.heap.size=w.heap.size+2:=by rw[hw2];simp
 have g0:w2.heap[w.heap.size]?=some (.cells #[.slice a ks.length c] 22 (0,0)):=by
  rw[hw2];exact(Go.heap_alloc_old _ _ (by simp)).trans (heap_alloc_new _ _)
 have g1:w2.heap[w.heap.size+1]?=some (.cells #[.map none] 158 (0,0)):=by
  have:=heap_alloc_new (w.alloc (.cells #[.slice a ks.length c] 22)) (.cells #[.map none] 158);rw[World.size_alloc] at this;rw[hw2];exact this
 obtain⟨s,hs⟩:∃ s,s=w.heap.size+1:=⟨_,rfl⟩;rw[<- hs] at g1;have hna:∀ x,a=some x->s≠x.block:=fun x hx e=>by have:=(hl.own x hx).1;omega
 have hsat2:=h.below hb2;have hz:=hl.z.below hb2;have hbo:BoN w2 s w.heap.size a c ks w2:=⟨⟨_,g1⟩,cell1 g0,hz,fun _ _=>rfl⟩;have hC:∀ k,CsN s w.heap.size a k->k<w2.heap.size/\o k=none:=by
  rintro k (rfl|rfl|⟨x,hx,rfl⟩)
  ·
   exact⟨by omega,h.lt.none (by omega)⟩
  ·
   exact⟨by omega,h.lt.none (by omega)⟩
  ·
   have:=hl.own x hx;exact⟨by omega,this.2.2⟩
 have hC0:∀ k,CsN s w.heap.size a k->w0.heap.size<=k:=by
  rintro k (rfl|rfl|⟨x,hx,rfl⟩)
  ·
   omega
  ·
   omega
  ·
   exact(hl.own x hx).2.1
 have hL:=Zps (B:=BoN w2 s w.heap.size a c ks) (QP:=fun _=>Zvf n m.waits m.d.vars s Fs 0) (St:=fun m'=>m'.waits=m.waits/\m'.d.vars=m.d.vars) (fun _ _ hb hk=>hb.keep hk) (fun s' _ W W' m' V' hc hz _ hq a=>Zux (hc s (.inl rfl)) hz hq a) (fun m' d hm hr=>⟨hm.1,by show d.vars=_;rw[hr.vars];exact hm.2⟩) hC0 Zo7 (Zx3 (E:=fun _ _ _=>False) (by omega) hna hlen hm m.waits m.d.vars) hsat2 hbo hC ⟨rfl,rfl⟩
 have HL:Hid (Calls Tryz.prog 82 #[.pointer (some ⟨mb,0,none⟩),.func (.func 150) #[] #[.pointer (some ⟨s,0,none⟩),.pointer (some ⟨w.heap.size,0,none⟩)]] w2 fun x w'=>x=.returned (.int .i64 0)/\∃ nt,w'.cell? ⟨s,0,none⟩=some (.map (some nt))/\(∃ v,w'.heap[s]?=some (.cells #[v] 158 (0,0)))/\Ybe K n Od room w0 mb fs nx m o w Fs (.returned (.tuple #[.map (some nt),.int .i64 0])) w'):=Hd (hL.mono (by
  rintro x w' ⟨er,rfl,o',m',V',hs',hb',hc,⟨rfl,q1,q2,nt,cs,q3,q4,q5,q6⟩|⟨_,m0,e,_⟩⟩
  ·
   refine⟨rfl,nt,q4,hb'.n,nt,cs,rfl,q5,q6,o',m',V',?_,q1,q2,hs'⟩;have hcc:ChgX (CsN s w.heap.size a) o o' w w':=(ChgX.of_below hb2 o (CsN s w.heap.size a)).trans hc (fun _ _ e=>e);refine⟨hcc.os,hcc.tape,hcc.output,hcc.size,fun k hk ho _=>?_,hcc.ext,hcc.new⟩
   by_cases e:CsN s w.heap.size a k
   ·
    rcases e with e|e|⟨x,hx,e⟩
    ·
     omega
    ·
     omega
    ·
     subst e;exact(hb'.s x hx).trans (hb2.block _ hk)
   ·
    exact hcc.block k hk ho e
  ·
   exact e.elim))
 have HIS:Hid (∀ i,i<ks.length->Calls Tryz.prog 24 #[.pointer (some ⟨mb,0,none⟩),.int .i64 (at0 ks i)] w2 fun x w'=>x=.returned (.bool true)/\w2=w'):=Hd fun i hi=>by
  rw[Zb0 hi];exact(Zpu hsat2 (hm i hi))
 have HZ:Hid (∀ i,i<ks.length->∃ b off,a=some ⟨b,off,none⟩/\w2.cell? ⟨b,off+i,none⟩=some (.int .i64 (at0 ks i))):=Hd fun i hi=>by
  obtain⟨b,off,e,hc⟩:=hz.cells i hi;exact⟨b,off,e,hc⟩
 have HW2:=Hd hw2.symm;have HS:=Hd hs;have c0:=cell1 g0;have hzl:=hz.len;obtain⟨P,hP⟩:∃ P,P=Ybe K n Od room w0 mb fs nx m o w Fs:=⟨_,rfl⟩;rw[<- hP] at HL ⊢;have HP:Hid (∀ x w',P x w'->P x w'):=Hd fun _ _ e=>e
 clear hP h hw0 hw2 hb2 hz2 g0 g1 hs hna hsat2 hz hbo hC hC0 hL hl hlen hm
 go_enter Tryz.func117,Tryz.ntmps117
 go_upto_region 1 with fail;rw[HW2.out];rw[<- HS.out];go_wp2_with fail
 go_loopw [7,12] (fun _ s12 wr=>∃ i:Nat,i<=ks.length/\s12=.int .i64 i/\wr=w2) (fun _ s12 _=>ks.length-(intOf s12).toNat)
 case atStart=>exact⟨0,Nat.zero_le _,by trivial,by trivial⟩
 case round =>
  obtain⟨i,hi,rfl,rfl⟩:=hrel
  by_cases hlt:i<ks.length
  ·
   have hiz:(i:Int)<(ks.length:Int):=by omega
   obtain⟨b,off,rfl,ck⟩:=HZ.out i hlt;have HI:=Hd (HIS.out i hlt);clear HL;go_wp2_with fail;refine HI.out.mono ?_;rintro x w' ⟨rfl,rfl⟩;go_wp2_with fail;go_roundw
   case rel=>exact⟨i+1,by omega,by rw[show ((i+1:Nat):Int)=(i:Int)+1 by omega],trivial⟩
   case measure=>simp[intOf];omega
  ·
   obtain rfl:i=ks.length:=by omega
   have hnlt:¬ (ks.length:Int)<(ks.length:Int):=by omega
   go_wp2_with fail;refine HL.out.mono ?_;rintro x w' ⟨rfl,nt,q1,⟨v,q2⟩,hf⟩;have HF:=Hd hf;obtain rfl:v=.map (some nt):=Option.some.inj ((cell1 q2).symm.trans q1);have HSS:=Hd (Zjb q2);have f1:w'.frozen? ⟨s,0,none⟩=false:=by simp[World.frozen?,q2]
   clear hf HL;go_wp2_with fail;rw[HSS.out];have hu:=Tryz.underlying158;refine bodyPost_ret (v:=.tuple #[.map (some nt),.int .i64 0]) ((results_cell_tmp rfl _ _ _).trans ?_) rfl HF.out
   show ((asAddr (.pointer (some ⟨s,0,none⟩))).run Tryz.prog w').andThen (fun a w₁=>((loadVar 158 a).run Tryz.prog w₁).andThen fun v w₂=>.ok (Value.tuple #[v,.int .i64 0]) w₂)=_
   go_simp
end
open Go.RowKit
open Go.ChangeMaps (setBlock)
section
variable {K:Law} {n:Nat} {Od:List Nat->Prop} {room:Nat} {w0 w:World} {mb:Nat} {fs:List (Int×BF)} {nx:Int} {o:Own} {m:ManD} {V:Nat->BF}
def AskV (K:Law) (n:Nat) (Od:List Nat->Prop) (room:Nat) (w0:World) (mb:Nat) (fs:List (Int×BF)) (nx:Int) (m:ManD) (o:Own) (w w':World):Prop :=
 ∃ o' m' V',ChgX NoB o o' w w'/\m'.waits=m.waits/\m'.d.vars=m.d.vars/\SatE K n Od room w0 mb fs nx w' o' m' V'
theorem AskV.below {w1 w':World} (h:AskV K n Od room w0 mb fs nx m o w w1) (hb:Below w1.heap.size w1 w'):AskV K n Od room w0 mb fs nx m o w w':=by
 obtain⟨o',m',V',h1,h2,h3,h4⟩:=h;exact⟨o',m',V',h1.trans (ChgX.of_below hb o' NoB) (fun _ _ e=>e),h2,h3,h4.below hb⟩
end
open Go.RowKit
theorem Zrb (args:Array Value) (w:World):(callFunc 83 args).run Tryz.prog w=.ok (.enter 83 args) w:=enters_of Tryz.func83 (by kernel_rfl) rfl args w
theorem NatV.keepC {w w':World} {v:Value} {x:Nat} (h:NatV w v x) (hk:∀ b j d,w.cell? ⟨b,j,none⟩=some (.int .u32 d)->w'.heap[b]?=w.heap[b]?):NatV w' v x:=by
 obtain⟨a,c,h1,h2,h3,h4⟩:=h;refine⟨a,c,h1,h2,h3,⟨h4.len,h4.ok,fun k hk'=>?_⟩⟩;obtain⟨b,off,e,hc⟩:=h4.cells k hk';exact⟨b,off,e,(World.cell?_of_block (w:=w) (a:=⟨b,off+k,none⟩) (hk b _ _ hc)).trans hc⟩
theorem NatV.keepO {w w':World} {v:Value} {x:Nat} (h:NatV w v x) (hk:∀ q,v.ownBlock=some q->w'.heap[q]?=w.heap[q]?):NatV w' v x:=by
 obtain⟨a,c,h1,h2,h3,h4⟩:=h;refine⟨a,c,h1,h2,h3,⟨h4.len,h4.ok,fun k hk'=>?_⟩⟩;obtain⟨b,off,e,hc⟩:=h4.cells k hk';exact⟨b,off,e,(World.cell?_of_block (w:=w) (a:=⟨b,off+k,none⟩) (hk b (by rw[h1,e];rfl))).trans hc⟩
theorem Zg6.keepO {W W':World} {fv:Value} {fx:Nat->Option Bool} (h:Zg6 W fv fx) (hk:∀ q,fv=.map (some q)->W'.heap[q]?=W.heap[q]?):Zg6 W' fv fx:=by
 rcases h with h|⟨ft,l,h1,h2,h3⟩
 ·
  exact .inl h
 ·
  exact .inr ⟨ft,l,h1,h2.keepB (hk ft h1),h3⟩
structure BoT (n:Nat) (wB:World) (bA bX bF bN:Nat) (va fv:Value) (fx:Nat->Option Bool) (k:Int) (W:World):Prop where
 n_:∃ (a:Option Addr) (l c:Nat),W.heap[bN]?=some (.cells #[.slice a l c] 40 (0,0))
 a_:W.cell? ⟨bA,0,none⟩=some va
 an:NatV W va (2^n)
 x_:W.cell? ⟨bX,0,none⟩=some fv
 fx_:Zg6 W fv fx
 f_:W.cell? ⟨bF,0,none⟩=some (.int .i64 k)
 s_:∀ q,fv=.map (some q)->W.heap[q]?=wB.heap[q]?
def CsT (bA bX bF bN:Nat) (va fv:Value) (q:Nat):Prop:=q=bA\/q=bX\/q=bF\/q=bN\/va.ownBlock=some q\/fv=.map (some q)
theorem BoT.keep {n:Nat} {wB:World} {bA bX bF bN:Nat} {va fv:Value} {fx:Nat->Option Bool} {k:Int} {W W':World} (h:BoT n wB bA bX bF bN va fv fx k W) (hk:∀ q,CsT bA bX bF bN va fv q->W'.heap[q]?=W.heap[q]?):BoT n wB bA bX bF bN va fv fx k W' :=
 ⟨by rw[hk _ (.inr (.inr (.inr (.inl rfl))))];exact h.n_,(World.cell?_of_block (w:=W) (a:=⟨bA,0,none⟩) (hk _ (.inl rfl))).trans h.a_,h.an.keepO fun q e=>hk q (.inr (.inr (.inr (.inr (.inl e))))),
  (World.cell?_of_block (w:=W) (a:=⟨bX,0,none⟩) (hk _ (.inr (.inl rfl)))).trans h.x_,h.fx_.keepO fun q e=>hk q (.inr (.inr (.inr (.inr (.inr e))))),
  (World.cell?_of_block (w:=W) (a:=⟨bF,0,none⟩) (hk _ (.inr (.inr (.inl rfl))))).trans h.f_,fun q e=>(hk q (.inr (.inr (.inr (.inr (.inr e)))))).trans (h.s_ q e)⟩
section
variable {K:Law} {n:Nat} {Od:List Nat->Prop} {room:Nat} {w0 w:World} {mb:Nat} {fs:List (Int×BF)} {nx:Int} {o:Own} {m:ManD} {V:Nat->BF}
def AskN (K:Law) (n:Nat) (Od:List Nat->Prop) (room:Nat) (w0:World) (mb:Nat) (fs:List (Int×BF)) (nx:Int) (m:ManD) (o:Own) (w w':World) (v:Value):Prop :=
 ∃ o' m' V',ChgX NoB o o' w w'/\m'.waits=m.waits/\m'.d.vars=m.d.vars/\SatE K n Od room w0 mb fs nx w' o' m' V'/\∀ q,v.ownBlock=some q->o' q=none
theorem AskN.ask {w':World} {v:Value} (h:AskN K n Od room w0 mb fs nx m o w w' v):AskV K n Od room w0 mb fs nx m o w w':=by
 obtain⟨o',m',V',h1,h2,h3,h4,_⟩:=h;exact⟨o',m',V',h1,h2,h3,h4⟩
def TotQ (ws0:List Ev) (os:List Nat) (bN N:Nat) (_:Nat) (o:Own) (W:World) (m:ManD) (_:Nat->BF):Prop :=
 m.waits=ws0/\m.d.vars=os/\∃ v,W.cell? ⟨bN,0,none⟩=some v/\NatV W v N/\∀ q,v.ownBlock=some q->o q=none
theorem Yac {wB:World} {bA bX bF bN:Nat} {va fv:Value} {fx:Nat->Option Bool} {k:Int} {G:BF} (hne:∀ q,(q=bA\/q=bX\/q=bF\/va.ownBlock=some q\/fv=.map (some q))->q≠bN) (hm:(k,G)∈fs) (ws0:List Ev) (os:List Nat) (E:Int->ManD->ManD->Prop) :
 OpLN K n Od room w0 mb fs nx (CsT bA bX bF bN va fv) (BoT n wB bA bX bF bN va fv fx k) (fun m=>m.waits=ws0/\m.d.vars=os) 83 #[.pointer (some ⟨bA,0,none⟩),.pointer (some ⟨bX,0,none⟩),.pointer (some ⟨bF,0,none⟩),.pointer (some ⟨bN,0,none⟩)] (TotQ ws0 os bN (totN n fx G)) E:=by
 intro o W m V xb hsat hB hC hst hcx hnx;obtain⟨hws,hos⟩:=hst;obtain⟨f,hf,hef⟩:=hsat.find hm;have hk:=hsat.ok.store;have hokf:=hsat.ok.handles.ok _ hf;have hmf:∀ (fn:Fn) (first cap:Array Value) (w:World),(Instr.makeFunc fn first cap).run Tryz.prog w=.ok (.func fn first cap) w:=fun _ _ _ _=>rfl
 have hmm:=fun t w=>Zb2 (P:=Tryz.prog) w t
 have lN:=(hC bN (.inr (.inr (.inr (.inl rfl))))).1;have lA:=(hC bA (.inl rfl)).1;have lX:=(hC bX (.inr (.inl rfl))).1;have lF:=(hC bF (.inr (.inr (.inl rfl)))).1;have hxl:xb<W.heap.size:=Zab hcx.cell;have hxN:xb≠bN:=fun e=>hnx (.inr (.inr (.inr (.inl e))))
 obtain⟨w4,hw4⟩:∃ w4,w4=(((W.alloc (.cells #[.pointer (some ⟨xb,0,none⟩)] 115)).alloc (.map #[] 0)).alloc (.cells #[.map (some (W.heap.size+1))] 151)).alloc (.cells #[.nilFunc] 152):=⟨_,rfl⟩;have HW4:Hid (_=w4):=Hd hw4.symm;have hb4:Below W.heap.size W w4:=by rw[hw4];exact(((Zaf _ _).alloc (by simp) _).alloc (by simp;omega) _).alloc (by simp;omega) _
 have hz4:w4.heap.size=W.heap.size+1+1+1+1:=by rw[hw4];simp
 have g0:w4.heap[W.heap.size]?=some (.cells #[.pointer (some ⟨xb,0,none⟩)] 115 (0,0)):=by
  rw[hw4];exact(Go.heap_alloc_old _ _ (by simp;omega)).trans ((Go.heap_alloc_old _ _ (by simp;omega)).trans ((Go.heap_alloc_old _ _ (by simp)).trans (heap_alloc_new _ _)))
 have g1:Zaz w4 (W.heap.size+1) (Value.int .i64) []:=by
  have h1:=Zd7 (W.alloc (.cells #[.pointer (some ⟨xb,0,none⟩)] 115)) (Value.int .i64);rw[World.size_alloc] at h1;rw[hw4];exact(h1.below (Zaf _ _)).below (Zaf _ _)
 have g2:w4.heap[W.heap.size+1+1]?=some (.cells #[.map (some (W.heap.size+1))] 151 (0,0)):=by
  have:=heap_alloc_new ((W.alloc (.cells #[.pointer (some ⟨xb,0,none⟩)] 115)).alloc (.map #[] 0)) (.cells #[.map (some (W.heap.size+1))] 151);rw[World.size_alloc,World.size_alloc] at this;rw[hw4];exact(Go.heap_alloc_old _ _ (by simp)).trans this
 have g3:w4.heap[W.heap.size+1+1+1]?=some (.cells #[.nilFunc] 152 (0,0)):=by
  have:=heap_alloc_new (((W.alloc (.cells #[.pointer (some ⟨xb,0,none⟩)] 115)).alloc (.map #[] 0)).alloc (.cells #[.map (some (W.heap.size+1))] 151)) (.cells #[.nilFunc] 152);rw[World.size_alloc,World.size_alloc,World.size_alloc] at this;rw[hw4];exact this
 have c6:=cell1 g3;have f6:w4.frozen? ⟨W.heap.size+1+1+1,0,none⟩=false:=by simp[World.frozen?,g3]
 obtain⟨w5,hw5⟩:∃ w5,w5=w4.setCell ⟨W.heap.size+1+1+1,0,none⟩ (.func (.func 84) #[] #[.pointer (some ⟨bA,0,none⟩),.pointer (some ⟨W.heap.size+1+1+1,0,none⟩),.pointer (some ⟨W.heap.size+1+1,0,none⟩),.pointer (some ⟨W.heap.size,0,none⟩),.pointer (some ⟨bX,0,none⟩)]):=⟨_,rfl⟩;have hk5:∀ q:Nat,q≠W.heap.size+1+1+1->w5.heap[q]?=w4.heap[q]?:=fun q hq=>by rw[hw5];exact Zad hq _
 have e6:w5.heap[W.heap.size+1+1+1]?=some (.cells #[.func (.func 84) #[] #[.pointer (some ⟨bA,0,none⟩),.pointer (some ⟨W.heap.size+1+1+1,0,none⟩),.pointer (some ⟨W.heap.size+1+1,0,none⟩),.pointer (some ⟨W.heap.size,0,none⟩),.pointer (some ⟨bX,0,none⟩)]] 152 (0,0)):=by rw[hw5];exact Zae g3 _
 have hb5:Below W.heap.size W w5:=by rw[hw5];exact hb4.setCell (p:=⟨W.heap.size+1+1+1,0,none⟩) (by show W.heap.size<=W.heap.size+1+1+1;omega) _
 have hsto:(store ⟨W.heap.size+1+1+1,0,none⟩ (.func (.func 84) #[] #[.pointer (some ⟨bA,0,none⟩),.pointer (some ⟨W.heap.size+1+1+1,0,none⟩),.pointer (some ⟨W.heap.size+1+1,0,none⟩),.pointer (some ⟨W.heap.size,0,none⟩),.pointer (some ⟨bX,0,none⟩)])).run Tryz.prog w4=.ok () w5:=by
  rw[run_store _ _ _ _ _ rfl];simp[c6,f6,hw5]
 obtain⟨wd,hwd⟩:∃ wd,wd=w5.drew:=⟨_,rfl⟩;have HWD:=Hd hwd;have hbd:Below W.heap.size W wd:=by rw[hwd];exact hb5.trans ((Zah w5 1).mono hb5.size)
 have hkd:∀ q:Nat,wd.heap[q]?=w5.heap[q]?:=fun q=>by rw[hwd];rfl
 have k6:wd.cell? ⟨W.heap.size+1+1+1,0,none⟩=some (.func (.func 84) #[] #[.pointer (some ⟨bA,0,none⟩),.pointer (some ⟨W.heap.size+1+1+1,0,none⟩),.pointer (some ⟨W.heap.size+1+1,0,none⟩),.pointer (some ⟨W.heap.size,0,none⟩),.pointer (some ⟨bX,0,none⟩)]):=cell1 ((hkd _).trans e6);have k3:wd.cell? ⟨W.heap.size,0,none⟩=some (.pointer (some ⟨xb,0,none⟩)):=cell1 ((hkd _).trans ((hk5 _ (by omega)).trans g0));have k5:wd.cell? ⟨W.heap.size+1+1,0,none⟩=some (.map (some (W.heap.size+1))):=cell1 ((hkd _).trans ((hk5 _ (by omega)).trans g2));have km:Zaz wd (W.heap.size+1) (Value.int .i64) []:=g1.keepB ((hkd _).trans (hk5 _ (by omega)));have kc:∀ {b:Nat} {v:Value},W.cell? ⟨b,0,none⟩=some v->wd.cell? ⟨b,0,none⟩=some v:=fun {b v} h=>(hbd.cell (p:=⟨b,0,none⟩) (Zab h)).trans h
 have kF:=kc hB.f_;have hxd:Zer o wd xb mb:=⟨kc hcx.cell,hcx.own⟩;have hsd:=hsat.below hbd;have hvars:m.d.vars.length=n:=hsat.vars;have hs:TtS (K m.d V) ⟨bA,W.heap.size+1+1+1,W.heap.size+1+1,W.heap.size,bX,W.heap.size+1,xb⟩ mb o m V fv fx wd:=by
  refine⟨hsd.is,hsd.lt,hk,hk.small,hxd,⟨va,kc hB.a_,(by rw[hvars];exact hB.an.below hbd),fun q e=>(hC q (.inr (.inr (.inr (.inr (.inl e)))))).2⟩,k6,k5,k3,kc hB.x_,hB.fx_.below hbd,fun e=>?_,⟨[],km,fun p hp=>by simp at hp⟩,hsat.lt.none (by show W.heap.size<=W.heap.size+1;omega),?_⟩
  ·
   have:=(hC (W.heap.size+1) (.inr (.inr (.inr (.inr (.inr e)))))).1;omega
  ·
   refine⟨?_,?_,?_,?_,?_,?_⟩
   ·
    show W.heap.size+1≠bA;omega
   ·
    show W.heap.size+1≠W.heap.size+1+1+1;omega
   ·
    show W.heap.size+1≠W.heap.size+1+1;omega
   ·
    show W.heap.size+1≠W.heap.size;omega
   ·
    show W.heap.size+1≠bX;omega
   ·
    show W.heap.size+1≠xb;omega
 have hcall:=Zyl m.d.vars.length f wd hs hokf (by omega);have HED:=Hd (Zcf hsd.is hxd hsat.ok.handles.nodup hf);obtain⟨P,hP⟩:∃ P:Ending->World->Prop,P=fun e w'=>∃ (o':Own) (m':ManD) (V':Nat->BF),Zhj (CsT bA bX bF bN va fv) K o W mb m V o' w' m' V'/\BoT n wB bA bX bF bN va fv fx k w' /\
  ((e=.returned (.tuple #[])/\TotQ ws0 os bN (totN n fx G) W.heap.size o' w' m' V') \/
   (∃ er:Int,e=Zb8 er false ev0/\er≠0/\m'.waits=m.waits/\(m'.waits=ws0/\m'.d.vars=os)/\E er m m') \/
   (∃ ev,e=Zb8 0 true ev/\m.waits=ev::m'.waits/\StE K n Od room w0 mb fs nx (fun m=>m.waits=ws0/\m.d.vars=os) m'/\HapG K n Od room w0 mb fs nx ev)):=⟨_,rfl⟩
 have HFIN:Hid (∀ w8 v,Wr (· = W.heap.size+1) wd w8->TtS (K m.d V) ⟨bA,W.heap.size+1+1+1,W.heap.size+1+1,W.heap.size,bX,W.heap.size+1,xb⟩ mb o m V fv fx w8->NatV w8 v (totN m.d.vars.length fx (ef V f))->(∀ q,v.ownBlock=some q->o q=none) ->
  (∃ w9,(∃ a l c,v=.slice a l c)/\((∃ y,w8.cell? ⟨bN,0,none⟩=some y)/\w8.frozen? ⟨bN,0,none⟩=false/\w8.setCell ⟨bN,0,none⟩ v=w9)/\P (.returned (.tuple #[])) w9 /\
   w9.cell? ⟨W.heap.size+1+1+1,0,none⟩=w8.cell? ⟨W.heap.size+1+1+1,0,none⟩/\w9.cell? ⟨W.heap.size,0,none⟩=w8.cell? ⟨W.heap.size,0,none⟩/\w9.cell? ⟨bF,0,none⟩=w8.cell? ⟨bF,0,none⟩)):=Hd fun w8 v hr h8 hv hvq=>by
  obtain⟨na,nl,nc,hn0⟩:=hB.n_;have hn8:w8.heap[bN]?=some (.cells #[.slice na nl nc] 40 (0,0)):=by
   rw[hr.keep bN (by have:=hbd.size;omega) (fun e=>by have e:bN=W.heap.size+1:=e;omega),hbd.block bN lN];exact hn0
  obtain⟨w9,hw9⟩:∃ w9,w9=w8.setCell ⟨bN,0,none⟩ v:=⟨_,rfl⟩;have hk9:∀ q:Nat,q≠bN->w9.heap[q]?=w8.heap[q]?:=fun q hq=>by rw[hw9];exact Zad hq _
  have hn9:w9.heap[bN]?=some (.cells #[v] 40 (0,0)):=by rw[hw9];exact Zae hn8 _
  have hr9:Wr (· = bN) w8 w9:=by rw[hw9];exact(Wr.refl (· = bN) w8).setCell (p:=⟨bN,0,none⟩) (.inl rfl) v
  have hrW:Wr (· = bN) W w9:=((Wr.of_below hbd (· = bN)).trans hr (fun _ _ e=>e) (fun k hk e=>by have e:k=W.heap.size+1:=e;omega)).trans hr9 (fun _ _ e=>e) (fun _ _ e=>e);have hv9:NatV w9 v (totN m.d.vars.length fx (ef V f)):=hv.keepC fun b j d hc=>hk9 b fun e=>by
   subst e;rw[cell_of_row _ _ _ _ _ _ hn8] at hc;rcases(show j=0\/1<=j by omega) with rfl|hj
   ·
    simp at hc
   ·
    rw[Array.getElem?_eq_none (by simpa using hj)] at hc;cases hc
  have hoN:o bN=none:=(hC bN (.inr (.inr (.inr (.inl rfl))))).2;obtain⟨va',vl',vc',hvs⟩:∃ a l c,v=.slice a l c:=by
   obtain⟨a,c,e,_⟩:=hv;exact⟨a,_,c,e⟩
  refine⟨w9,⟨va',vl',vc',hvs⟩,?_,?_,World.cell?_of_block (w:=w8) (a:=⟨W.heap.size+1+1+1,0,none⟩) (hk9 (W.heap.size+1+1+1) (by omega)),World.cell?_of_block (w:=w8) (a:=⟨W.heap.size,0,none⟩) (hk9 W.heap.size (by omega)),World.cell?_of_block (w:=w8) (a:=⟨bF,0,none⟩) (hk9 _ (hne bF (.inr (.inr (.inl rfl)))))⟩
  ·
   exact⟨⟨_,cell1 hn8⟩,by simp[World.frozen?,hn8],hw9.symm⟩
  ·
   rw[hP];refine⟨o,m,V,⟨h8.is.other h8.lt hr9 (fun q _ e=>by have e:q=bN:=e;subst e;exact hoN),h8.lt.mono hr9.size,ChgX.of_wr hrW o (fun q _ e=>.inr (.inr (.inr (.inl e)))),hk,Ext.refl _ _,rfl,rfl⟩,?_,.inl ⟨rfl,hws,hos,v,cell1 hn9,?_,hvq⟩⟩
   ·
    have hkk:∀ q,(q=bA\/q=bX\/q=bF\/va.ownBlock=some q\/fv=.map (some q))->w9.heap[q]?=W.heap[q]?:=fun q hq=>hrW.keep q (hC q (by
     rcases hq with e|e|e|e|e
     ·
      exact .inl e
     ·
      exact .inr (.inl e)
     ·
      exact .inr (.inr (.inl e))
     ·
      exact .inr (.inr (.inr (.inr (.inl e))))
     ·
      exact .inr (.inr (.inr (.inr (.inr e)))))).1 (hne q hq)
    refine⟨⟨va',vl',vc',by rw[<- hvs];exact hn9⟩,(World.cell?_of_block (w:=W) (a:=⟨bA,0,none⟩) (hkk _ (.inl rfl))).trans hB.a_,hB.an.keepO fun q e=>hkk q (.inr (.inr (.inr (.inl e)))),(World.cell?_of_block (w:=W) (a:=⟨bX,0,none⟩) (hkk _ (.inr (.inl rfl)))).trans hB.x_,hB.fx_.keepO fun q e=>hkk q (.inr (.inr (.inr (.inr e)))),(World.cell?_of_block (w:=W) (a:=⟨bF,0,none⟩) (hkk _ (.inr (.inr (.inl rfl))))).trans hB.f_,fun q e=>(hkk q (.inr (.inr (.inr (.inr e))))).trans (hB.s_ q e)⟩
   ·
    rw[hvars,hef] at hv9;exact hv9
 have HCALL:Hid (Calls Tryz.prog 84 #[.int .i64 f,.pointer (some ⟨bA,0,none⟩),.pointer (some ⟨W.heap.size+1+1+1,0,none⟩),.pointer (some ⟨W.heap.size+1+1,0,none⟩),.pointer (some ⟨W.heap.size,0,none⟩),.pointer (some ⟨bX,0,none⟩)] wd fun x w'=>∃ u,x=.returned u/\(w'.cell? ⟨W.heap.size+1+1+1,0,none⟩=some (.func (.func 84) #[] #[.pointer (some ⟨bA,0,none⟩),.pointer (some ⟨W.heap.size+1+1+1,0,none⟩),.pointer (some ⟨W.heap.size+1+1,0,none⟩),.pointer (some ⟨W.heap.size,0,none⟩),.pointer (some ⟨bX,0,none⟩)])/\w'.cell? ⟨W.heap.size,0,none⟩=some (.pointer (some ⟨xb,0,none⟩))/\w'.cell? ⟨bF,0,none⟩=some (.int .i64 k))/\∃ w9,(∃ a l c,u=.slice a l c)/\((∃ y,w'.cell? ⟨bN,0,none⟩=some y)/\w'.frozen? ⟨bN,0,none⟩=false/\w'.setCell ⟨bN,0,none⟩ u=w9)/\P (.returned (.tuple #[])) w9/\(w9.cell? ⟨W.heap.size+1+1+1,0,none⟩=some (.func (.func 84) #[] #[.pointer (some ⟨bA,0,none⟩),.pointer (some ⟨W.heap.size+1+1+1,0,none⟩),.pointer (some ⟨W.heap.size+1+1,0,none⟩),.pointer (some ⟨W.heap.size,0,none⟩),.pointer (some ⟨bX,0,none⟩)])/\w9.cell? ⟨W.heap.size,0,none⟩=some (.pointer (some ⟨xb,0,none⟩))/\w9.cell? ⟨bF,0,none⟩=some (.int .i64 k))):=Hd (hcall.mono (by
  rintro x w' ⟨v,rfl,q1,q2,q3,q4⟩;obtain⟨w9,rs,r1,r2,r3,r4,r5⟩:=HFIN.out w' v q1 q2 q3 q4;have kf':w'.cell? ⟨bF,0,none⟩=some (.int .i64 k):=(World.cell?_of_block (w:=wd) (a:=⟨bF,0,none⟩) (q1.keep bF (Zab kF) (fun e=>by have e:bF=W.heap.size+1:=e;omega))).trans kF;exact⟨v,rfl,⟨q2.bt,q2.bx,kf'⟩,w9,rs,r1,r2,⟨r3.trans q2.bt,r4.trans q2.bx,r5.trans kf'⟩⟩))
 rw[<- hP];have eg1:=Zf0;have HW5:Hid (_=w5):=Hd hw5.symm;clear hP HFIN hcall hs hsd hk hef hf hokf hxl hxN hsat hB hC hcx hnx hne hm hb4 hb5 hbd hkd hk5 e6 g0 g1 g2 g3 hw4 hw5 hwd k5 km kc hz4 hxd hvars lN lA lX lF hws hos
 go_enter Tryz.func83,Tryz.ntmps83
 go_upto_region 3 with fail;rw[HW4.out];go_upto_region 4 with fail;refine Zem [0,1,2,3,4,5] (fun W'=>W'.cell? ⟨W.heap.size+1+1+1,0,none⟩=some (.func (.func 84) #[] #[.pointer (some ⟨bA,0,none⟩),.pointer (some ⟨W.heap.size+1+1+1,0,none⟩),.pointer (some ⟨W.heap.size+1+1,0,none⟩),.pointer (some ⟨W.heap.size,0,none⟩),.pointer (some ⟨bX,0,none⟩)])/\W'.cell? ⟨W.heap.size,0,none⟩=some (.pointer (some ⟨xb,0,none⟩))/\W'.cell? ⟨bF,0,none⟩=some (.int .i64 k)) (fun ch w'=>False) (fun c a w hd h=>h.elim) (by kernel_rfl) (by rw[<- HWD.out];exact⟨k6,k3,kF⟩) ?_;rw[<- HWD.out]
 iterate 3
  refine Zcr rfl rfl (by kernel_rfl) ?_;apply Exists.intro;refine⟨fun w' hw=>?_,?_⟩
  ·
   obtain⟨q1,q2,q3⟩:=hw;go_simp;rfl
  simp only[Zag]
 refine Zbb (R1:=fun u w'=>u=.int .i64 f/\wd=w') rfl (by kernel_rfl) rfl rfl (by go_simp) (HED.out.mono fun x w' h=>⟨_,h.1,rfl,h.2⟩) (by rintro u w' ⟨_,rfl⟩;exact⟨k6,k3,kF⟩) ?_;rintro u w'-⟨rfl,rfl⟩;simp only[Zag];refine Zbb (R1:=fun u w'=>(w'.cell? ⟨W.heap.size+1+1+1,0,none⟩=some (.func (.func 84) #[] #[.pointer (some ⟨bA,0,none⟩),.pointer (some ⟨W.heap.size+1+1+1,0,none⟩),.pointer (some ⟨W.heap.size+1+1,0,none⟩),.pointer (some ⟨W.heap.size,0,none⟩),.pointer (some ⟨bX,0,none⟩)])/\w'.cell? ⟨W.heap.size,0,none⟩=some (.pointer (some ⟨xb,0,none⟩))/\w'.cell? ⟨bF,0,none⟩=some (.int .i64 k))/\∃ w9,(∃ a l c,u=.slice a l c)/\((∃ y,w'.cell? ⟨bN,0,none⟩=some y)/\w'.frozen? ⟨bN,0,none⟩=false/\w'.setCell ⟨bN,0,none⟩ u=w9)/\P (.returned (.tuple #[])) w9/\(w9.cell? ⟨W.heap.size+1+1+1,0,none⟩=some (.func (.func 84) #[] #[.pointer (some ⟨bA,0,none⟩),.pointer (some ⟨W.heap.size+1+1+1,0,none⟩),.pointer (some ⟨W.heap.size+1+1,0,none⟩),.pointer (some ⟨W.heap.size,0,none⟩),.pointer (some ⟨bX,0,none⟩)])/\w9.cell? ⟨W.heap.size,0,none⟩=some (.pointer (some ⟨xb,0,none⟩))/\w9.cell? ⟨bF,0,none⟩=some (.int .i64 k))) rfl (by kernel_rfl) rfl rfl (by go_simp) (HCALL.out.mono fun x w' ⟨u,e,q⟩=>⟨u,e,q⟩) (by rintro u w' ⟨q,_⟩;exact q) ?_;rintro u w8-⟨⟨s1,s2,s3⟩,w9,⟨ua,ul,uc,rfl⟩,⟨⟨cy,cN⟩,fN,hst⟩,hp,hS⟩;have HF:=Hd hp;clear hp;simp only[Zag];refine Zzr (w':=w9) rfl (by kernel_rfl) rfl rfl (by go_simp<;>exact hst) hS ?_;clear hst hS s1 s2 s3 cN fN;simp only[Zag];refine Zi8 (by kernel_rfl) ?_;clear k6 k3 kF HCALL HED;go_wp2_with fail;refine bodyPost_end (results_none rfl _ _ _) rfl ?_;exact HF.out
theorem Zqt (h:SatE K n Od room w0 mb fs nx w o m V) {k:Int} {G:BF} (hf:(k,G)∈fs) {fv:Value} {fx:Nat->Option Bool} (hfx:Zg6 w fv fx) (hfo:∀ q,fv=.map (some q)->q<w.heap.size/\w0.heap.size<=q/\o q=none) :
 Calls Tryz.prog 43 #[.pointer (some ⟨mb,0,none⟩),.int .i64 k,fv] w fun x w'=>∃ v,x=.returned (.tuple #[v,.int .i64 0])/\NatV w' v (totN n fx G)/\AskN K n Od room w0 mb fs nx m o w w' v:=by
 have hmf:∀ (fn:Fn) (first cap:Array Value) (w:World),(Instr.makeFunc fn first cap).run Tryz.prog w=.ok (.func fn first cap) w:=fun _ _ _ _=>rfl
 have hw0:=h.chg.size;obtain⟨fm,rfl⟩:∃ q,fv=.map q:=by
  rcases hfx with ⟨e,_⟩|⟨ft,l,e,_⟩
  ·
   exact⟨_,e⟩
  ·
   exact⟨_,e⟩
 have hn64:n<=64:=by have:=h.ok.store.small;rw[h.vars] at this;exact this
 obtain⟨s,hs⟩:∃ s,s=w.heap.size:=⟨_,rfl⟩;obtain⟨w1,hw1⟩:∃ w1,w1=((w.alloc (.cells #[.int .i64 k] 3)).alloc (.cells #[.map fm] 97)).alloc (.cells #[.slice none 0 0] 40):=⟨_,rfl⟩;have hz1:w1.heap.size=s+1+1+1:=by rw[hw1,hs];simp
 have hb1:Below w.heap.size w w1:=by rw[hw1];exact((Zaf _ _).alloc (by simp) _).alloc (by simp;omega) _
 have g0:w1.heap[s]?=some (.cells #[.int .i64 k] 3 (0,0)):=by
  rw[hw1,hs];exact(Go.heap_alloc_old _ _ (by simp;omega)).trans ((Go.heap_alloc_old _ _ (by simp)).trans (heap_alloc_new _ _))
 have g1:w1.heap[s+1]?=some (.cells #[.map fm] 97 (0,0)):=by
  have:=heap_alloc_new (w.alloc (.cells #[.int .i64 k] 3)) (.cells #[.map fm] 97);rw[World.size_alloc] at this;rw[hw1,hs];exact(Go.heap_alloc_old _ _ (by simp)).trans this
 have g2:w1.heap[s+1+1]?=some (.cells #[.slice none 0 0] 40 (0,0)):=by
  have:=heap_alloc_new ((w.alloc (.cells #[.int .i64 k] 3)).alloc (.cells #[.map fm] 97)) (.cells #[.slice none 0 0] 40);rw[World.size_alloc,World.size_alloc] at this;rw[hw1,hs];exact this
 have HOF:=Hd (Zhk (w:=w1) (n:=1) (by omega))
 have HREST:Hid (∀ w2 v1,Below w1.heap.size w1 w2->NatV w2 v1 1->Calls Tryz.prog 42 #[.pointer (some ⟨mb,0,none⟩)] w2 (fun x w'=>x=.returned (.int .i64 (n:Nat))/\w2=w') /\
  Calls Tryz.prog 13 #[v1,.int .i64 (n:Nat)] w2 fun x w3=>∃ va,(∃ a l c,va=.slice a l c)/\x=.returned va /\
   Calls Tryz.prog 82 #[.pointer (some ⟨mb,0,none⟩),.func (.func 83) #[] #[.pointer (some ⟨w3.heap.size,0,none⟩),.pointer (some ⟨s+1,0,none⟩),.pointer (some ⟨s,0,none⟩),.pointer (some ⟨s+1+1,0,none⟩)]] (w3.alloc (.cells #[va] 40)) fun x w'=>x=.returned (.int .i64 0)/\∃ v,w'.heap[s+1+1]?=some (.cells #[v] 40 (0,0))/\NatV w' v (totN n fx G)/\AskN K n Od room w0 mb fs nx m o w w' v):=Hd fun w2 v1 hb2 hv1=>by
  have hbw2:Below w.heap.size w w2:=hb1.trans (hb2.mono hb1.size);have hs2:=h.below hbw2;refine⟨?_,?_⟩
  ·
   have hv:=Zdm hs2.is;rw[hs2.vars] at hv;exact hv
  ·
   refine(Zj6 hv1 (by rw[Zdo (by omega),Zbl];simp) (show n<=4096 by omega)).mono ?_;rintro x w3 ⟨⟨va,rfl,hva,ga,qa,e,hga⟩,hb3⟩;rw[Nat.one_mul] at hva;refine⟨va,⟨_,_,_,e⟩,rfl,?_⟩;have hz2:=hb2.size;have hz3:=hb3.size;obtain⟨w4,hw4⟩:∃ w4,w4=w3.alloc (.cells #[va] 40):=⟨_,rfl⟩;rw[<- hw4];have hb4:Below w3.heap.size w3 w4:=by rw[hw4];exact Zaf _ _
   have hz4:w4.heap.size=w3.heap.size+1:=by rw[hw4];simp
   have gA:w4.heap[w3.heap.size]?=some (.cells #[va] 40 (0,0)):=by rw[hw4];exact heap_alloc_new _ _
   have hbw3:Below w.heap.size w w3:=hbw2.trans (hb3.mono hbw2.size);have hbw4:Below w.heap.size w w4:=hbw3.trans (hb4.mono hbw3.size);have hb14:Below w1.heap.size w1 w4:=(hb2.trans (hb3.mono hb2.size)).trans (hb4.mono (by omega));have hs4:=h.below hbw4;have e0:w4.heap[s]?=_:=(hb14.block s (by omega)).trans g0;have e1:w4.heap[s+1]?=_:=(hb14.block (s+1) (by omega)).trans g1;have e2:w4.heap[s+1+1]?=_:=(hb14.block (s+1+1) (by omega)).trans g2;have hvan:∀ q,va.ownBlock=some q->q=ga:=fun q hq=>by rw[e] at hq;exact(Option.some.inj hq).symm
   have hgal:ga<w3.heap.size:=by
    obtain⟨a,c,e3,_,_,hu⟩:=hva;have hl:0<(digD (2^n)).length:=by rw[Zdo (Nat.pos_iff_ne_zero.1 (Nat.pow_pos (by omega)))];simp
    obtain⟨b,off,e4,hc⟩:=hu.cells 0 hl;rw[e,e4] at e3;injection e3 with e5
    have e6:ga=b:=by injection e5 with e7;injection e7
    rw[e6];exact Zab hc
   have hbo:BoT n w4 w3.heap.size (s+1) s (s+1+1) va (.map fm) fx k w4:=⟨⟨none,0,0,e2⟩,cell1 gA,hva.below hb4,cell1 e1,hfx.below hbw4,cell1 e0,fun _ _=>rfl⟩;have hC:∀ q,CsT w3.heap.size (s+1) s (s+1+1) va (.map fm) q->q<w4.heap.size/\o q=none:=by
    rintro q (rfl|rfl|rfl|rfl|e|e)
    ·
     exact⟨by omega,h.lt.none (by omega)⟩
    ·
     exact⟨by omega,h.lt.none (by omega)⟩
    ·
     exact⟨by omega,h.lt.none (by omega)⟩
    ·
     exact⟨by omega,h.lt.none (by omega)⟩
    ·
     rw[hvan q e];exact⟨by omega,h.lt.none (by omega)⟩
    ·
     have:=hfo q e;exact⟨by omega,this.2.2⟩
   have hC0:∀ q,CsT w3.heap.size (s+1) s (s+1+1) va (.map fm) q->w0.heap.size<=q:=by
    rintro q (rfl|rfl|rfl|rfl|e|e)
    ·
     omega
    ·
     omega
    ·
     omega
    ·
     omega
    ·
     rw[hvan q e];omega
    ·
     exact(hfo q e).2.1
   have hne:∀ q,(q=w3.heap.size\/q=s+1\/q=s\/va.ownBlock=some q\/(.map fm:Value)=.map (some q))->q≠s+1+1:=by
    rintro q (rfl|rfl|rfl|e|e)
    ·
     omega
    ·
     omega
    ·
     omega
    ·
     rw[hvan q e];omega
    ·
     have:=(hfo q e).1;omega
   have hL:=Zps (B:=BoT n w4 w3.heap.size (s+1) s (s+1+1) va (.map fm) fx k) (QP:=TotQ m.waits m.d.vars (s+1+1) (totN n fx G) 0) (St:=fun m'=>m'.waits=m.waits/\m'.d.vars=m.d.vars) (fun _ _ hb hk=>hb.keep hk) (fun s' o' W W' m' V' hc hz hu hq a=>by
    obtain⟨q1,q2,v,q3,q4,q5⟩:=hq;have hN:=hc (s+1+1) (.inr (.inr (.inr (.inl rfl))));refine⟨q1,q2,v,(World.cell?_of_block (w:=W) (a:=⟨s+1+1,0,none⟩) (a.keep (s+1+1) (by omega) (by omega))).trans q3,q4.keepC fun b j d hcb=>a.keep b (Zab hcb) (fun e=>?_),q5⟩;rcases e with rfl|rfl
    ·
     exact hu.1 j d hcb
    ·
     exact hu.2 j d hcb) (fun m' d hm hr=>⟨hm.1,by show d.vars=_;rw[hr.vars];exact hm.2⟩) hC0 Zrb (Yac (E:=fun _ _ _=>False) hne hf m.waits m.d.vars) hs4 hbo hC ⟨rfl,rfl⟩
   refine hL.mono ?_;rintro x w' ⟨er,rfl,o',m',V',hs',hb',hc,⟨rfl,q1,q2,v,q3,q4,q5⟩|⟨_,m0,e,_⟩⟩
   ·
    obtain⟨na,nl,nc,hn⟩:=hb'.n_;have hv:v=.slice na nl nc:=Option.some.inj (q3.symm.trans (cell1 hn));refine⟨rfl,v,by rw[hv];exact hn,q4,o',m',V',?_,q1,q2,hs',q5⟩;have hcc:ChgX (CsT w3.heap.size (s+1) s (s+1+1) va (.map fm)) o o' w w':=(ChgX.of_below hbw4 o _).trans hc (fun _ _ e=>e);refine⟨hcc.os,hcc.tape,hcc.output,hcc.size,fun k hk ho _=>?_,hcc.ext,hcc.new⟩
    by_cases e:CsT w3.heap.size (s+1) s (s+1+1) va (.map fm) k
    ·
     rcases e with e|e|e|e|e|e
     ·
      omega
     ·
      omega
     ·
      omega
     ·
      omega
     ·
      have:=hvan k e;omega
     ·
      exact(hb'.s_ k e).trans (hbw4.block k hk)
    ·
     exact hcc.block k hk ho e
   ·
    exact e.elim
 have HW1:=Hd hw1.symm;obtain⟨P,hP⟩:∃ P:Ending->World->Prop,P=fun x w'=>∃ v,x=.returned (.tuple #[v,.int .i64 0])/\NatV w' v (totN n fx G)/\AskN K n Od room w0 mb fs nx m o w w' v:=⟨_,rfl⟩
 have HP:Hid (∀ w' v,NatV w' v (totN n fx G)->AskN K n Od room w0 mb fs nx m o w w' v->P (.returned (.tuple #[v,.int .i64 0])) w'):=Hd fun w' v h1 h2=>by rw[hP];exact⟨v,rfl,h1,h2⟩
 have HS:=Hd hs;rw[<- hP];clear hP h hw0 hn64 hw1 hz1 hb1 g0 g1 g2 hf hfx hfo hs
 go_enter Tryz.func43,Tryz.ntmps43
 go_upto_region 1 with fail;rw[HW1.out,<- HS.out];go_wp2_with fail;refine HOF.out.mono ?_;rintro x w2 ⟨⟨v1,rfl,hv1⟩,hb2⟩;obtain⟨q1,q2⟩:=HREST.out w2 v1 hb2 hv1;have HV:=Hd q1;have HSH:=Hd q2;clear q1 q2 hb2 hv1 HREST HOF;go_wp2_with fail;refine HV.out.mono ?_;rintro x w' ⟨rfl,rfl⟩;go_wp2_with fail;refine HSH.out.mono ?_;rintro x w3 ⟨va,⟨ya,yl,yc,rfl⟩,rfl,hL⟩;have HL:=Hd hL;clear hL HV HSH;go_wp2_with fail;refine HL.out.mono ?_;rintro x w' ⟨rfl,v,q2,q3,q4⟩;have HF:=Hd (HP.out w' v q3 q4);have HSS:=Hd (Zjb q2);have c2:=cell1 q2;have f1:w'.frozen? ⟨s+1+1,0,none⟩=false:=by simp[World.frozen?,q2]
 obtain⟨va',vl',vc',rfl⟩:∃ a l c,v=.slice a l c:=by
  obtain⟨a,c,e,_⟩:=q3;exact⟨a,_,c,e⟩
 clear q3 q4 HL HP;go_wp2_with fail;rw[HSS.out];have hu:=Tryz.underlying40;refine bodyPost_ret (v:=.tuple #[.slice va' vl' vc',.int .i64 0]) ((results_cell_tmp rfl _ _ _).trans ?_) rfl HF.out
 show ((asAddr (.pointer (some ⟨s+1+1,0,none⟩))).run Tryz.prog w').andThen (fun a w₁=>((loadVar 40 a).run Tryz.prog w₁).andThen fun v w₂=>.ok (Value.tuple #[v,.int .i64 0]) w₂)=_
 go_simp
end
open Go.RowKit
section
variable {K:Law} {n:Nat} {Od:List Nat->Prop} {room:Nat} {w0 w:World} {fs:List (Int×BF)} {nx:Int} {o:Own} {mb:Nat} {m:ManD} {V:Nat->BF}
def known (fs:List (Int×BF)) (k:Int):Prop:=∃ F,(k,F)∈fs
theorem Zrm (h:SatE K n Od room w0 mb fs nx w o m V) (k:Int) {b:Bool} (hb:b=true↔known fs k):Calls Tryz.prog 24 #[.pointer (some ⟨mb,0,none⟩),.int .i64 k] w fun x w'=>x=.returned (.bool b)/\w=w':=by
 cases b with
 | true =>
   obtain⟨F,hF⟩:=hb.1 rfl;exact Zpu h hF
 | false=>exact Zzj h (fun p hp e=>by
  have:known fs k:=⟨p.2,by rw[<- e];exact hp⟩;have:=hb.2 this;cases this)
end
open Go.RowKit
theorem Zpc {w:World} {v:Value} {x k:Nat} (h:NatV w v x) (hk:k<=4096) :
 Calls Tryz.prog 44 #[v,.int .i64 (k:Nat)] w fun e w'=>(∃ v',e=.returned v'/\NatV w' v' (x/2^k)/\∀ q,v'.ownBlock=some q->v.ownBlock=some q\/w.heap.size<=q)/\Below w.heap.size w w':=by
 obtain⟨P,hP⟩:∃ P:Ending->World->Prop,P=fun e w'=>(∃ v',e=.returned v'/\NatV w' v' (x/2^k)/\∀ q,v'.ownBlock=some q->v.ownBlock=some q\/w.heap.size<=q)/\Below w.heap.size w w':=⟨_,rfl⟩
 have HPE:=Hd hP;rw[<- hP];have H0:Hid (NatV w v (x/2^0)/\∀ q,v.ownBlock=some q->v.ownBlock=some q\/w.heap.size<=q):=Hd ⟨by simpa using h,fun q e=>.inl e⟩;have HB0:Hid (Below w.heap.size w w):=Hd (Below.refl _ _);clear hP h
 go_enter Tryz.func44,Tryz.ntmps44
 go_wp2_with fail
 go_loopw [0,6] (fun s0 s6 wr=>∃ j:Nat,j<=k/\s6=.int .i64 (j:Int)/\Hid (NatV wr s0 (x/2^j)/\∀ q,s0.ownBlock=some q->v.ownBlock=some q\/w.heap.size<=q)/\Hid (Below w.heap.size w wr)) (fun _ s6 _=>k-(intOf s6).toNat)
 case atStart=>exact⟨0,Nat.zero_le _,rfl,H0,HB0⟩
 case round =>
  obtain⟨j,hj,rfl,HV,HB⟩:=hrel
  by_cases hlt:j<k
  ·
   have hjz:(j:Int)<(k:Int):=by omega
   have HH:=Hd (Zgj HV.out.1);clear HV;go_wp2_with fail;refine HH.out.mono ?_;rintro e w' ⟨⟨v',rfl,hv,hq⟩,hb⟩;have HV2:Hid (NatV w' v' (x/2^(j+1))/\∀ q,v'.ownBlock=some q->v.ownBlock=some q\/w.heap.size<=q):=Hd ⟨by rw[Nat.pow_succ,<- Nat.div_div_eq_div_mul];exact hv,fun q e=>.inr (Nat.le_trans HB.out.size (hq q e))⟩;have HB2:=Hd (HB.out.trans (hb.mono HB.out.size));clear hv hq hb HH HB;go_wp2_with fail;go_roundw
   case rel=>exact⟨j+1,by omega,by rw[show ((j+1:Nat):Int)=(j:Int)+1 by omega],HV2,HB2⟩
   case measure=>simp[intOf];omega
  ·
   obtain rfl:j=k:=by omega
   have hnlt:¬ (j:Int)<(j:Int):=by omega
   have HF:Hid (P (.returned u0) wr):=Hd (by rw[HPE.out];exact⟨⟨_,rfl,HV.out.1,HV.out.2⟩,HB.out⟩);clear HV HB;go_wp2_with fail;exact HF.out
section
variable {K:Law} {n:Nat} {Od:List Nat->Prop} {room:Nat} {w0 w:World} {mb:Nat} {fs:List (Int×BF)} {nx:Int} {o:Own} {m:ManD} {V:Nat->BF}
theorem Zfi (h:SatE K n Od room w0 mb fs nx w o m V) (k:Int) {b:Bool} (hb:b=true↔known fs k) :
 Calls Tryz.prog 41 #[.pointer (some ⟨mb,0,none⟩),.int .i64 k] w fun e w'=>e=.returned (.int .i64 (if b then 0 else 8))/\w=w':=by
 have HK:=Hd (Zrm h k hb);clear h hb;cases b with
 | true =>
   go_enter Tryz.func41,Tryz.ntmps41
   go_wp2_with fail;refine HK.out.mono ?_;rintro e w' ⟨rfl,rfl⟩;go_wp2_with fail;go_ret;exact⟨rfl,rfl⟩
 | false =>
   go_enter Tryz.func41,Tryz.ntmps41
   go_wp2_with fail;refine HK.out.mono ?_;rintro e w' ⟨rfl,rfl⟩;go_wp2_with fail;go_ret;exact⟨rfl,rfl⟩
end
open Go.RowKit
theorem Ybw {i n:Nat} (hi:i<2^n):Zeu (Zet i (n+1))=upd (Zeu (Zet i n)) n false:=funext fun v=>by
 unfold upd Zeu Zet
 by_cases h:v=n
 ·
  subst h;simp[List.getD,bitB,Nat.div_eq_of_lt hi]
 ·
  rw[if_neg h];rcases Nat.lt_or_ge v n with c|c
  ·
   simp[List.getD,c,show v<n+1 by omega]
  ·
   simp[List.getD,show ¬ v<n by omega,show ¬ v<n+1 by omega]
theorem Zy7 {i n:Nat} (hi:i<2^n):Zeu (Zet (2^n+i) (n+1))=upd (Zeu (Zet i n)) n true:=funext fun v=>by
 unfold upd Zeu Zet
 by_cases h:v=n
 ·
  subst h;have e:(2^v+i)/2^v=1:=by
   rw[Nat.add_div_left _ (Nat.pow_pos (by omega)),Nat.div_eq_of_lt hi]
  simp[List.getD,bitB,e]
 ·
  rw[if_neg h];rcases Nat.lt_or_ge v n with c|c
  ·
   have e:(2^n+i)/2^v%2=i/2^v%2:=by
    have h2:2^n=2^v*(2*2^(n-v-1)):=by
     rw[<- Nat.pow_succ',<- Nat.pow_add];congr 1;omega
    rw[h2,Nat.mul_add_div (Nat.pow_pos (by omega))];omega
   simp[List.getD,c,show v<n+1 by omega,bitB,e]
  ·
   simp[List.getD,show ¬ v<n by omega,show ¬ v<n+1 by omega]
theorem Zyf (n:Nat) (F:BF):tabB (n+1) F=tabB n (cofF F n false)++tabB n (cofF F n true):=by
 unfold tabB;rw[Nat.pow_succ,Nat.mul_two,List.range_add,List.map_append,List.map_map];congr 1
 ·
  refine List.map_congr_left fun i hi=>?_
  rw[Ybw (List.mem_range.1 hi)];rfl
 ·
  refine List.map_congr_left fun i hi=>?_
  show F (Zeu (Zet (2^n+i) (n+1)))=_
  rw[Zy7 (List.mem_range.1 hi)];rfl
theorem Zid:∀ (n:Nat) (F:BF),(tabB n F).count true=cntN n F fun _=>false
 | 0,F=>by
   show ([F (Zeu (Zet 0 0))]:List Bool).count true=if F _=true then 1 else 0
   have:Zeu (Zet 0 0)=fun _=>false:=funext fun v=>by simp[Zeu,Zet]
   rw[this];cases F fun _=>false<;>rfl
 | n+1,F=>by
   rw[Zyf,List.count_append,Zid n,Zid n,Zdb F n false n _ (Nat.le_refl _),Zdb F n true n _ (Nat.le_refl _)];rfl
open Go.RowKit
def nfix:Nat->(Nat->Option Bool)->Nat
 | 0,_=>0
 | n+1,fx=>nfix n fx+(if (fx n).isSome then 1 else 0)
theorem Zxj (fx:Nat->Option Bool):∀ n,nfix n fx<=n
 | 0=>Nat.le_refl _
 | n+1=>by
   have:=Zxj fx n;unfold nfix;split<;>omega
def cntA:Nat->BF->(Nat->Option Bool)->(Nat->Bool)->Nat
 | 0,F,_,ρ=>if F ρ then 1 else 0
 | n+1,F,fx,ρ=>match fx n with
   | none=>cntA n F fx (upd ρ n false)+cntA n F fx (upd ρ n true)
   | some b=>cntA n F fx (upd ρ n b)
theorem Zjj (F:BF) (fx:Nat->Option Bool):∀ (n:Nat) (ρ:Nat->Bool),(∀ v,n<=v->∀ b,fx v=some b->ρ v=b)->cntN n (fixV fx F) ρ=2^nfix n fx*cntA n F fx ρ
 | 0,ρ,h=>by
   have e:(fun v=>(fx v).getD (ρ v))=ρ:=funext fun v=>by
    cases hv:fx v with
    | none=>rfl
    | some b=>exact(h v (Nat.zero_le _) b hv).symm
   show (if F (fun v=>(fx v).getD (ρ v))=true then 1 else 0)=2^0*(if F ρ=true then 1 else 0)
   rw[e];simp
 | n+1,ρ,h=>by
   show cntN n _ (upd ρ n false)+cntN n _ (upd ρ n true)=_
   cases hv:fx n with
   | none =>
     have hu:∀ c,∀ v,n<=v->∀ b,fx v=some b->upd ρ n c v=b:=fun c v hv2 b hb=>by
      by_cases e:v=n
      ·
       subst e;rw[hv] at hb;cases hb
      ·
       unfold upd;rw[if_neg e];exact h v (by omega) b hb
     rw[Zjj F fx n _ (hu false),Zjj F fx n _ (hu true)];simp[cntA,nfix,hv,Nat.mul_add]
   | some b =>
     have hu:∀ v,n<=v->∀ b',fx v=some b'->upd ρ n b v=b':=fun v hv2 b' hb=>by
      by_cases e:v=n
      ·
       subst e;rw[hv] at hb;cases hb;simp[upd]
      ·
       unfold upd;rw[if_neg e];exact h v (by omega) b' hb
     have hc:∀ c,cofF (fixV fx F) n c=fixV fx F:=fun c=>funext fun σ=>by
      show F (fun v=>(fx v).getD (upd σ n c v))=F fun v=>(fx v).getD (σ v)
      congr 1;funext v
      by_cases e:v=n
      ·
       subst e;rw[hv];rfl
      ·
       unfold upd;rw[if_neg e]
     have he:∀ c,cntN n (fixV fx F) (upd ρ n c)=cntN n (fixV fx F) ρ:=fun c=>by
      rw[<- Zdb _ n c n ρ (Nat.le_refl _),hc]
     have e1:cntA (n+1) F fx ρ=cntA n F fx (upd ρ n b):=by simp[cntA,hv]
     have e2:nfix (n+1) fx=nfix n fx+1:=by simp[nfix,hv]
     rw[he false,he true,<- he b,Zjj F fx n _ hu,e1,e2,Nat.pow_succ,Nat.mul_right_comm,Nat.mul_two]
def agF:Nat->(Nat->Option Bool)->(Nat->Bool)->Bool
 | 0,_,_=>true
 | n+1,fx,ρ=>agF n fx ρ&&(match fx n with|none=>true|some b=>ρ n == b)
theorem Zvq (fx:Nat->Option Bool) (ρ:Nat->Bool):∀ n,agF n fx ρ=true↔∀ v,v<n->∀ b,fx v=some b->ρ v=b
 | 0=>by simp[agF]
 | n+1=>by
   have ih:=Zvq fx ρ n;unfold agF;rw[Bool.and_eq_true,ih];constructor
   ·
    rintro⟨h1,h2⟩ v hv b hb;rcases(show v<n\/v=n by omega) with c|rfl
    ·
     exact h1 v c b hb
    ·
     rw[hb] at h2;simpa using h2
   ·
    intro h;refine⟨fun v hv=>h v (by omega),?_⟩;cases hv:fx n with
    | none=>rfl
    | some b=>simpa using h n (by omega) b hv
theorem Zt3 (n:Nat) (ρ:Nat->Bool):cntN n (fun _=>false) ρ=0:=by
 have h1:=Zm2 n (fun _=>false) ρ;have h2:cntN n (notF fun _=>false) ρ=2^n:=Zlz n ρ;omega
theorem Zly (F:BF) (fx:Nat->Option Bool):∀ (n:Nat) (ρ:Nat->Bool),cntN n (fun σ=>F σ&&agF n fx σ) ρ=cntA n F fx ρ
 | 0,ρ=>by
   show (if (F ρ&&true)=true then 1 else 0)=if F ρ=true then 1 else 0
   rw[Bool.and_true]
 | n+1,ρ=>by
   have key:∀ c,cntN n (fun σ=>F σ&&agF (n+1) fx σ) (upd ρ n c)=if (match fx n with|none=>true|some b=>c == b)=true then cntA n F fx (upd ρ n c) else 0:=fun c=>by
    rw[<- Zdb _ n c n ρ (Nat.le_refl _)];have e1:∀ σ,agF (n+1) fx (upd σ n c)=(agF n fx (upd σ n c)&&(match fx n with|none=>true|some b=>c == b)):=fun σ=>by
     show (agF n fx (upd σ n c)&&_)=_
     rw[show upd σ n c n=c by simp[upd]]
    by_cases hm:(match fx n with|none=>true|some b=>c == b)=true
    ·
     rw[if_pos hm,<- Zly F fx n,<- Zdb _ n c n ρ (Nat.le_refl _)];refine Zyz (fun σ=>?_) n ρ;rw[Zcl,Zcl]
     show (F (upd σ n c)&&agF (n+1) fx (upd σ n c))=(F (upd σ n c)&&agF n fx (upd σ n c))
     rw[e1,hm,Bool.and_true]
    ·
     rw[if_neg hm]
     rw[show cofF (fun σ=>F σ&&agF (n+1) fx σ) n c=fun _=>false from funext fun σ=>by
      rw[Zcl]
      show (F (upd σ n c)&&agF (n+1) fx (upd σ n c))=false
      rw[e1,Bool.eq_false_iff.2 hm,Bool.and_false,Bool.and_false]]
     exact Zt3 n ρ
   show cntN n _ (upd ρ n false)+cntN n _ (upd ρ n true)=_
   rw[key false,key true];have e3:cntA (n+1) F fx ρ=match fx n with|none=>cntA n F fx (upd ρ n false)+cntA n F fx (upd ρ n true)|some b=>cntA n F fx (upd ρ n b):=rfl
   rw[e3];cases fx n with
   | none=>simp
   | some b=>cases b<;>simp
theorem Zu5 (n:Nat) (F:BF) (fx:Nat->Option Bool) (hf:∀ v,n<=v->fx v=none):totN n fx F=2^nfix n fx*(tabB n fun σ=>F σ&&agF n fx σ).count true:=by
 rw[Zid,Zly];exact Zjj F fx n _ fun v hv b hb=>by rw[hf v hv] at hb;cases hb
theorem Zqq (n:Nat) (F:BF) (fx:Nat->Option Bool) (hf:∀ v,n<=v->fx v=none):totN n fx F/2^nfix n fx=(tabB n fun σ=>F σ&&agF n fx σ).count true:=by
 rw[Zu5 n F fx hf,Nat.mul_div_cancel_left _ (Nat.pow_pos (by omega))]
theorem Zua {F:BF} {n:Nat} {fx:Nat->Option Bool} (hf:∀ v,n<=v->fx v=none) (hi:∀ v,v<n->(fx v).isSome->Indep F v):fixV fx F=F:=by
 have key:∀ k,k<=n->∀ ρ,F (fun v=>if v<k then (fx v).getD (ρ v) else ρ v)=F ρ:=fun k=>by
  induction k with
  | zero=>intro _ ρ;simp
  | succ k ih =>
    intro hk ρ;rw[<- ih (by omega) ρ];cases hv:fx k with
    | none =>
      congr 1;funext v
      by_cases e:v=k
      ·
       subst e;simp[hv]
      ·
       by_cases c:v<k
       ·
        rw[if_pos c,if_pos (by omega)]
       ·
        rw[if_neg c,if_neg (by omega)]
    | some b =>
      rw[<- hi k (by omega) (by rw[hv];rfl) (fun v=>if v<k then (fx v).getD (ρ v) else ρ v) b];congr 1;funext v
      by_cases e:v=k
      ·
       subst e;simp[hv,upd]
      ·
       show _=upd (fun v=>if v<k then (fx v).getD (ρ v) else ρ v) k b v
       unfold upd;rw[if_neg e]
       by_cases c:v<k
       ·
        rw[if_pos (by omega)];simp[c]
       ·
        rw[if_neg (by omega)];simp[c]
 funext ρ;rw[<- key n (Nat.le_refl _) ρ]
 show F _=F _
 congr 1;funext v
 by_cases c:v<n
 ·
  rw[if_pos c]
 ·
  rw[if_neg c,hf v (by omega)];rfl
open Go.RowKit
def shr:Nat->Nat->Nat×Nat
 | 0,c=>(c,0)
 | k+1,c=>if c%2=1 then (c,k+1) else shr k (c/2)
theorem AskV.vars {K:Law} {n:Nat} {Od:List Nat->Prop} {room:Nat} {w0 w w':World} {mb:Nat} {fs:List (Int×BF)} {nx:Int} {o:Own} {m:ManD} (h:AskV K n Od room w0 mb fs nx m o w w'):Calls Tryz.prog 42 #[.pointer (some ⟨mb,0,none⟩)] w' fun x w''=>x=.returned (.int .i64 (n:Nat))/\w'=w'':=by
 obtain⟨o',m',V',_,_,_,h6⟩:=h;have hv:=Zdm h6.is;rw[h6.vars] at hv;exact hv
theorem AskN.next {K:Law} {n:Nat} {Od:List Nat->Prop} {room:Nat} {w0 w w1 w':World} {mb:Nat} {fs:List (Int×BF)} {nx:Int} {o:Own} {m:ManD} {v v':Value} (h:AskN K n Od room w0 mb fs nx m o w w1 v) (hb:Below w1.heap.size w1 w') (hq:∀ q,v'.ownBlock=some q->v.ownBlock=some q\/w1.heap.size<=q):AskN K n Od room w0 mb fs nx m o w w' v':=by
 obtain⟨o',m',V',h1,h2,h3,h4,h5⟩:=h;refine⟨o',m',V',h1.trans (ChgX.of_below hb o' NoB) (fun _ _ e=>e),h2,h3,h4.below hb,fun q e=>?_⟩;rcases hq q e with e|e
 ·
  exact h5 q e
 ·
  exact h4.lt.none e
theorem AskN.of {K:Law} {n:Nat} {Od:List Nat->Prop} {room:Nat} {w0 w w':World} {mb:Nat} {fs:List (Int×BF)} {nx:Int} {o:Own} {m:ManD} {V:Nat->BF} (h:SatE K n Od room w0 mb fs nx w o m V) (hb:Below w.heap.size w w') (c:Nat):AskN K n Od room w0 mb fs nx m o w w' (.slice none 0 c) :=
 ⟨o,m,V,ChgX.of_below hb o NoB,rfl,rfl,h.below hb,fun q e=>by cases e⟩
section
variable {K:Law} {n:Nat} {Od:List Nat->Prop} {room:Nat} {w0 w:World} {mb:Nat} {fs:List (Int×BF)} {nx:Int} {o:Own} {m:ManD} {V:Nat->BF}
theorem Zqu (h:SatE K n Od room w0 mb fs nx w o m V) {k:Int} {G:BF} (hf:(k,G)∈fs) :
 Calls Tryz.prog 43 #[.pointer (some ⟨mb,0,none⟩),.int .i64 k,.map none] w fun x w'=>∃ v,x=.returned (.tuple #[v,.int .i64 0])/\NatV w' v (totN n (fun _=>none) G)/\AskN K n Od room w0 mb fs nx m o w w' v :=
 Zqt h hf (.inl ⟨rfl,fun _=>rfl⟩) (fun q e=>by cases e)
end
open Go.RowKit
section
variable {K:Law} {n:Nat} {Od:List Nat->Prop} {room:Nat} {w0 w:World} {mb:Nat} {fs:List (Int×BF)} {nx:Int} {o:Own} {m:ManD} {V:Nat->BF}
theorem Zn5 (h:SatE K n Od room w0 mb fs nx w o m V) {k:Int} {G:BF} (hf:(k,G)∈fs) {c0:Nat} (hc0:c0=totN n (fun _=>none) G) {r:Nat×Nat} (hr:r=if c0=0 then (0,0) else shr n c0) :
 Calls Tryz.prog 32 #[.pointer (some ⟨mb,0,none⟩),.int .i64 k] w fun x w'=>∃ v,x=.returned (.tuple #[v,.int .i64 (r.2:Nat),.int .i64 0])/\NatV w' v r.1/\AskN K n Od room w0 mb fs nx m o w w' v:=by
 have HA:=Hd (Zfi h k (b:=true) (by simp only[true_iff];exact⟨G,hf⟩));have HT:=Zqu h hf;rw[<- hc0] at HT;have HTT:=Hd HT;have hn64:n<=64:=by have:=h.ok.store.small;rw[h.vars] at this;exact this
 obtain⟨P,hP⟩:∃ P:Ending->World->Prop,P=fun x w'=>∃ v,x=.returned (.tuple #[v,.int .i64 (r.2:Nat),.int .i64 0])/\NatV w' v r.1/\AskN K n Od room w0 mb fs nx m o w w' v:=⟨_,rfl⟩
 have HPE:=Hd hP;have HR:=Hd hr;rw[<- hP];clear hP h hf hc0 hr HT
 go_enter Tryz.func32,Tryz.ntmps32
 go_wp2_with fail;refine HA.out.mono ?_;rintro x w' ⟨rfl,rfl⟩;clear HA;go_wp2_with fail;refine HTT.out.mono ?_;rintro x w2 ⟨v,rfl,hv,hask⟩;have HASK:=Hd hask;have HV:=Hd hask.ask.vars;have HN:=Hd hv;obtain⟨a,c,rfl,l1,l2,l3⟩:=hv;clear hask l1 l2 l3 HTT
 by_cases hz:c0=0
 ·
  have HF:Hid (P (.returned (.tuple #[.slice none 0 0,.int .i64 0,.int .i64 0])) w2):=Hd (by
   rw[HPE.out];have e:=HR.out;rw[if_pos hz] at e;exact⟨_,by rw[e];rfl,by rw[e];exact Zhx w2,HASK.out.next (Below.refl _ _) (fun q e=>by cases e)⟩)
  subst hz;rw[Zbl];have HF2:=HF;clear HF HN HV HASK;go_wp2_with fail;refine bodyPost_ret (results_tmp3 rfl _ _ _) rfl ?_;exact HF2.out
 ·
  have hL0:¬ ((digD c0).length:Int)=0:=by
   rw[Zdo hz];simp;omega
  have HRE:Hid (r=shr n c0):=Hd (by rw[HR.out,if_neg hz]);obtain⟨L,hL⟩:∃ L,L=(digD c0).length:=⟨_,rfl⟩;rw[<- hL] at hL0 HN HASK ⊢;have HB0:Hid (Below w2.heap.size w2 w2):=Hd (Below.refl _ _);clear hz hL HR;go_wp2_with fail;refine HV.out.mono ?_;rintro x w' ⟨rfl,rfl⟩;clear HV;go_wp2_with fail
  go_loopw [4,5,8,9] (fun s4 s5 _ _ wr=>∃ j cc:Nat,j<=n/\s5=.int .i64 (j:Int)/\Hid (r=shr j cc)/\Hid (NatV wr s4 cc/\∀ q,s4.ownBlock=some q->(Value.slice a L c).ownBlock=some q\/w2.heap.size<=q)/\Hid (Below w2.heap.size w2 wr)) (fun _ s5 _ _ _=>(intOf s5).toNat)
  case atStart=>exact⟨n,c0,Nat.le_refl _,rfl,HRE,Hd ⟨HN.out,fun q e=>.inl e⟩,HB0⟩
  case round =>
   obtain⟨j,cc,hj,rfl,HQ,HN2,HB⟩:=hrel
   by_cases hp:0<j
   ·
    have hpz:(0:Int)<(j:Int):=by omega
    obtain⟨j,rfl⟩:∃ i,j=i+1:=⟨j-1,by omega⟩
    by_cases hodd:cc%2=1
    ·
     have hh:=Zgj HN2.out.1;rw[decide_eq_true hodd] at hh;have HH:=Hd hh;have HF:Hid (∀ w',Below wr.heap.size wr w'->P (.returned (.tuple #[u4,.int .i64 ((j+1:Nat):Int),.int .i64 0])) w'):=Hd fun w' hb=>by
      rw[HPE.out];have e:=HQ.out;unfold shr at e;rw[if_pos hodd] at e;exact⟨u4,by rw[e],by rw[e];exact HN2.out.1.below hb,HASK.out.next (HB.out.trans (hb.mono HB.out.size)) HN2.out.2⟩
     clear hh hodd HN2 HB HQ;go_wp2_with fail;refine HH.out.mono ?_;rintro x w3 ⟨⟨v',rfl,_,_⟩,hb⟩;have HF2:=Hd (HF.out w3 hb);clear hb HF HH;go_wp2_with fail;refine bodyPost_ret (results_tmp3 rfl _ _ _) rfl ?_;exact HF2.out
    ·
     have hh:=Zgj HN2.out.1;rw[decide_eq_false hodd] at hh;have HH:=Hd hh
     have HQ2:Hid (r=shr j (cc/2)):=Hd (by
      have e:=HQ.out;unfold shr at e
      rwa [if_neg hodd] at e)
     clear hh hodd HQ;go_wp2_with fail;refine HH.out.mono ?_;rintro x w3 ⟨⟨v',rfl,hv',hq'⟩,hb⟩;have HN3:Hid (NatV w3 v' (cc/2)/\∀ q,v'.ownBlock=some q->(Value.slice a L c).ownBlock=some q\/w2.heap.size<=q):=Hd ⟨hv',fun q e=>.inr (Nat.le_trans HB.out.size (hq' q e))⟩;have HB3:=Hd (HB.out.trans (hb.mono HB.out.size));clear hv' hq' hb HB HH;go_wp2_with fail;go_roundw
     case rel=>exact⟨j,cc/2,by omega,by first|rfl|(congr 1<;>omega),HQ2,HN3,HB3⟩
     case measure=>simp[intOf]<;>omega
   ·
    obtain rfl:j=0:=by omega
    have HF:Hid (P (.returned (.tuple #[u4,.int .i64 0,.int .i64 0])) wr):=Hd (by
     rw[HPE.out];have e:=HQ.out;unfold shr at e;exact⟨u4,(by rw[e];rfl),(by rw[e];exact HN2.out.1),HASK.out.next HB.out HN2.out.2⟩)
    clear HN2 HB HQ;go_wp2_with fail;refine bodyPost_ret (results_tmp3 rfl _ _ _) rfl ?_;exact HF.out
end
open Go.RowKit
def setL (zs:List Int):List (Int×Value):=zs.foldl (fun l z=>putL z (.bool true) l) []
theorem Zx6 (zs:List Int) (z:Int):setL (zs++[z])=putL z (.bool true) (setL zs):=by
 unfold setL;rw[List.foldl_append];rfl
theorem Zk0:∀ (zs:List Int) (l:List (Int×Value)),(l.map Prod.fst).Nodup->((zs.foldl (fun l z=>putL z (.bool true) l) l).map Prod.fst).Nodup/\∀ z,getL (zs.foldl (fun l z=>putL z (.bool true) l) l) z=if z∈zs then some (.bool true) else getL l z
 | [],l,h=>⟨h,fun z=>by simp⟩
 | y::r,l,h=>by
   obtain⟨h1,h2⟩:=Zk0 r (putL y (.bool true) l) (Zgs h y _);refine⟨h1,fun z=>?_⟩;rw[List.foldl_cons,h2 z,Zki h]
   by_cases e1:z∈r
   ·
    rw[if_pos e1,if_pos (List.mem_cons_of_mem _ e1)]
   ·
    rw[if_neg e1]
    by_cases e2:z=y
    ·
     rw[if_pos e2,if_pos (by rw[e2];exact List.mem_cons_self ..)]
    ·
     rw[if_neg e2,if_neg (by simp[e1,e2])]
theorem Zuy (zs:List Int):((setL zs).map Prod.fst).Nodup:=(Zk0 zs [] (by simp)).1
theorem Zs2 (zs:List Int) (z:Int):getL (setL zs) z=if z∈zs then some (.bool true) else none:=by
 have:=(Zk0 zs [] (by simp)).2 z;exact this
theorem Zsn {l:List (Int×Value)} (z:Int):z∈l.map Prod.fst↔(getL l z).isSome=true:=by
 constructor
 ·
  intro h;cases hg:getL l z with
  | some v=>rfl
  | none =>
    obtain⟨p,hp,e⟩:=List.mem_map.1 h;exact absurd e (Zcu.1 hg p hp)
 ·
  intro h;obtain⟨v,hv⟩:=Option.isSome_iff_exists.1 h;exact List.mem_map.2 ⟨_,Zc2 hv,rfl⟩
def Zik:Nat->List Int->Nat
 | 0,_=>0
 | n+1,l=>Zik n l+if (n:Int)∈l then 1 else 0
theorem Zku {l l':List Int}:∀ n:Nat,(∀ v:Nat,v<n->((v:Int)∈l↔(v:Int)∈l'))->Zik n l=Zik n l'
 | 0,_=>rfl
 | n+1,h=>by
   unfold Zik;rw[Zku n fun v hv=>h v (by omega)]
   by_cases e:(n:Int)∈l
   ·
    rw[if_pos e,if_pos ((h n (by omega)).1 e)]
   ·
    rw[if_neg e,if_neg (fun c=>e ((h n (by omega)).2 c))]
theorem Zh0:∀ (n:Nat) (l:List Int),l.Nodup->(∀ z∈l,0<=z/\z<(n:Int))->l.length=Zik n l
 | 0,l,_,h=>by
   cases l with
   | nil=>rfl
   | cons a r=>have:=h a (by simp);omega
 | n+1,l,hn,h=>by
   unfold Zik
   by_cases hm:(n:Int)∈l
   ·
    have h1:=Zh0 n (l.erase (n:Int)) (hn.erase _) (fun x hx=>by
     have h2:=h x (List.mem_of_mem_erase hx);have h3:x≠(n:Int):=fun e=>by subst e;exact(List.Nodup.not_mem_erase hn) hx
     omega)
    rw[List.length_erase_of_mem hm] at h1;have h4:Zik n (l.erase (n:Int))=Zik n l:=Zku n fun v hv=>by
     constructor
     ·
      exact List.mem_of_mem_erase
     ·
      exact fun hc=>(List.mem_erase_of_ne (by omega)).2 hc
    have hp:0<l.length:=List.length_pos_of_mem hm;rw[if_pos hm];omega
   ·
    rw[if_neg hm,Nat.add_zero];refine Zh0 n l hn (fun x hx=>?_);have h2:=h x hx;have h3:x≠(n:Int):=fun e=>by subst e;exact hm hx
    omega
def Zd6 (n:Nat) (zs:List Int) (v:Nat):Option Bool:=if v<n/\(v:Int)∉zs then some false else none
theorem Zkg {n:Nat} {zs:List Int} (v:Nat) (h:n<=v):Zd6 n zs v=none:=by
 unfold Zd6;rw[if_neg (by omega)]
theorem Zsr (N:Nat) (zs:List Int):∀ n,n<=N->nfix n (Zd6 N zs)+Zik n zs=n
 | 0,_=>rfl
 | n+1,h=>by
   have ih:=Zsr N zs n (by omega);have e1:nfix (n+1) (Zd6 N zs)=nfix n (Zd6 N zs)+if (Zd6 N zs n).isSome then 1 else 0:=rfl
   have e2:Zik (n+1) zs=Zik n zs+if (n:Int)∈zs then 1 else 0:=rfl
   by_cases e:(n:Int)∈zs
   ·
    have e3:Zd6 N zs n=none:=by unfold Zd6;rw[if_neg (fun c=>c.2 e)]
    rw[e1,e2,e3,if_pos e];simp;omega
   ·
    have e3:Zd6 N zs n=some false:=by unfold Zd6;rw[if_pos ⟨by omega,e⟩]
    rw[e1,e2,e3,if_neg e];simp;omega
theorem Zs3 {n:Nat} {zs:List Int} (h:∀ z∈zs,0<=z/\z<(n:Int)):n-(setL zs).length=nfix n (Zd6 n zs)/\(setL zs).length<=n:=by
 have hm:∀ z,z∈(setL zs).map Prod.fst↔z∈zs:=fun z=>by
  rw[Zsn,Zs2]
  by_cases e:z∈zs
  ·
   rw[if_pos e];simp[e]
  ·
   rw[if_neg e];simp[e]
 have h1:=Zh0 n _ (Zuy zs) (fun z hz=>h z ((hm z).1 hz));rw[List.length_map,Zku n (fun v _=>hm v)] at h1;have h2:=Zsr n zs n (Nat.le_refl _);omega
def cntE (n:Nat) (G:BF) (zs:List Int):Int:=if ∀ z∈zs,0<=z/\z<(n:Int) then if ∀ v:Nat,v<n->Zbn n G v=true->(v:Int)∈zs then 0 else 1 else 9
def cntV (n:Nat) (G:BF) (zs:List Int):Nat:=(tabB n fun σ=>G σ&&agF n (Zd6 n zs) σ).count true
open Go.RowKit
def supL (n:Nat) (F:BF) (k:Nat):List Int:=((List.range k).filter (Zbn n F)).map fun v:Nat=>(v:Int)
theorem Zqk (n:Nat) (F:BF) (k:Nat):supL n F (k+1)=supL n F k++(if Zbn n F k then [(k:Int)] else []):=by
 unfold supL;rw[List.range_succ,List.filter_append,List.map_append];congr 1;simp only[List.filter_cons,List.filter_nil];split<;>rfl
theorem Zs8 (n:Nat) (F:BF) (k:Nat):(supL n F k).length<=k:=by
 unfold supL;rw[List.length_map];exact Nat.le_trans (List.length_filter_le _ _) (by simp)
theorem OwnI.base {w:World} {b b':Nat} {v:Value} {zs:List Int} (h:OwnI w b v zs) (hb:b'<=b):OwnI w b' v zs:=by
 obtain⟨h1,h2⟩:=h;exact⟨h1,h2.imp id fun⟨g,cap,cur,e,hg,r⟩=>⟨g,cap,cur,e,by omega,r⟩⟩
section
variable {K:Law} {n:Nat} {Od:List Nat->Prop} {room:Nat} {w0 w:World} {mb:Nat} {fs:List (Int×BF)} {nx:Int} {o:Own} {m:ManD} {V:Nat->BF}
theorem Zrx (h:SatE K n Od room w0 mb fs nx w o m V) {k:Int} {F:BF} (hf:(k,F)∈fs) :
 Calls Tryz.prog 72 #[.pointer (some ⟨mb,0,none⟩),.int .i64 k] w fun x w'=>∃ v,x=.returned (.tuple #[v,.int .i64 0])/\OwnI w' w.heap.size v (supL n F n)/\AskV K n Od room w0 mb fs nx m o w w':=by
 have hw0:=h.chg.size;obtain⟨w1,hw1⟩:∃ w1,w1=w.alloc (.cells #[.int .i64 k] 3):=⟨_,rfl⟩;have hb1:Below w.heap.size w w1:=by rw[hw1];exact Zaf _ _
 have hz1:w1.heap.size=w.heap.size+1:=by rw[hw1];simp
 have g1:w1.heap[w.heap.size]?=some (.cells #[.int .i64 k] 3 (0,0)):=by rw[hw1];exact heap_alloc_new _ _
 have hai:ArgI w0 w1 o (some ⟨w.heap.size,0,none⟩) [k]:=⟨⟨by simp,fun i hi=>by
  obtain rfl:i=0:=by simpa using hi
  exact⟨w.heap.size,0,rfl,cell1 g1⟩⟩,fun x hx=>by cases hx;exact⟨by show w.heap.size<w1.heap.size;omega,hw0,h.lt.none (Nat.le_refl _)⟩⟩
 have hS:=Zzz (c:=1) (Fs:=[F]) (h.below hb1) hai rfl (fun i hi=>by
  obtain rfl:i=0:=by simpa using hi
  exact hf)
 have HS:Hid (Calls Tryz.prog 117 #[.pointer (some ⟨mb,0,none⟩),.slice (some ⟨w.heap.size,0,none⟩) 1 1] (w.alloc (.cells #[.int .i64 k] 3)) fun x w'=>∃ nt cs,x=.returned (.tuple #[.map (some nt),.int .i64 0])/\Zaz w' nt (Value.int .i64) (ctL cs)/\Zyx n m.d.vars [F] cs/\AskV K n Od room w0 mb fs nx m o w w'/\w.heap.size<=w'.heap.size/\Calls Tryz.prog 42 #[.pointer (some ⟨mb,0,none⟩)] w' fun x w''=>x=.returned (.int .i64 (n:Nat))/\w'=w''):=Hd (by
  rw[<- hw1];refine hS.mono ?_;rintro x w' ⟨nt,cs,rfl,h1,h2,o',m',V',h3,h4,h5,h6⟩
  exact⟨nt,cs,rfl,h1,h2,⟨o',m',V',(ChgX.of_below hb1 o NoB).trans h3 (fun _ _ e=>e),h4,h5,h6⟩,by have:=h3.size;omega,by
   have hv:=Zdm h6.is;rw[h6.vars] at hv;exact hv⟩)
 have hnl:n<=64:=by have:=h.ok.store.small;rw[h.vars] at this;exact this
 obtain⟨P,hP⟩:∃ P:Ending->World->Prop,P=fun x w'=>∃ v,x=.returned (.tuple #[v,.int .i64 0])/\OwnI w' w.heap.size v (supL n F n)/\AskV K n Od room w0 mb fs nx m o w w':=⟨_,rfl⟩
 have HFIN:Hid (∀ w1 w' v,AskV K n Od room w0 mb fs nx m o w w1->Below w1.heap.size w1 w'->OwnI w' w1.heap.size v (supL n F n)->w.heap.size<=w1.heap.size->P (.returned (.tuple #[v,.int .i64 0])) w'):=Hd fun w1 w' v h1 h2 h3 h4=>by
  rw[hP];exact⟨v,rfl,h3.base h4,h1.below h2⟩
 rw[<- hP];clear hP hai hS hw0 hw1 hb1 hz1 g1 h hf
 go_enter Tryz.func72,Tryz.ntmps72
 go_wp2_with fail;refine HS.out.mono ?_;rintro x w2 ⟨nt,cs,rfl,hmp,hv,hask,hzz,hvars⟩;have HASK:=Hd hask;have HV:=Hd hvars;have HMP:=Hd hmp;have HZ:=Hd hzz;have HD:=Hd hv.dep;clear hask hvars hmp hzz hv HS;go_wp2_with fail;refine HV.out.mono ?_;rintro x w3 ⟨rfl,rfl⟩;clear HV;go_wp2_with fail
 go_loopw [4,7,20] (fun s4 _ s20 wr=>∃ j:Nat,j<=n/\s20=.int .i64 j/\Hid (OwnI wr w2.heap.size s4 (supL n F j))/\Hid (Below w2.heap.size w2 wr)) (fun _ _ s20 _=>n-(intOf s20).toNat)
 case atStart=>exact⟨0,by omega,rfl,Hd (Zh2 _ _),Hd (Below.refl _ _)⟩
 case round =>
  obtain⟨j,hj,rfl,HO,HBR⟩:=hrel
  by_cases hlt:j<n
  ·
   have hjz:(j:Int)<(n:Int):=by omega
   have hlk:=Zo0 (HMP.out.below HBR.out) j;obtain⟨g,hg⟩:∃ g,g=getC j cs:=⟨_,rfl⟩;rw[<- hg] at hlk;have hdj:=HD.out j;rw[<- hg] at hdj;have hol:=Zs8 n F j
   by_cases hp:0<g
   ·
    have hgz:(0:Int)<(g:Int):=by omega
    have hh:Zbn n F j=true:=by simpa using hdj.1 hp
    have HOE:Hid (supL n F (j+1)=supL n F j++[(j:Int)]):=Hd (by rw[Zqk,hh];rfl);clear hg hdj hh;go_wp2_with (at_builtin;refine Zcj _ rfl _ _ rfl w2.heap.size w2 _ (supL n F j) (j:Int) rfl rfl rfl rfl (by exact HO.out) (by omega) (by exact HBR.out.size) (by exact HBR.out) ?_;intro v' wy h1 h2 h3 h4);have HO2:Hid (OwnI wy w2.heap.size v' (supL n F (j+1))):=Hd (by rw[HOE.out];exact h1);have HB2:Hid (Below w2.heap.size w2 wy):=Hd h2;clear h1 h2 h3 h4 hlk;go_roundw
    case rel=>exact⟨j+1,by omega,by go_num,HO2,HB2⟩
    case measure=>simp[intOf];omega
   ·
    have hgz:¬ (0:Int)<(g:Int):=by omega
    have hh:Zbn n F j=false:=by
     cases e:Zbn n F j with
     | false=>rfl
     | true=>exact absurd (hdj.2 ⟨F,by simp,e⟩) hp
    have HOE:Hid (supL n F (j+1)=supL n F j):=Hd (by rw[Zqk,hh];simp);clear hg hdj hh;go_wp2_with fail;go_roundw
    case rel=>exact⟨j+1,by omega,by go_num,by rw[HOE.out];exact HO,HBR⟩
    case measure=>simp[intOf];omega
  ·
   obtain rfl:j=n:=by omega
   have HF:=Hd (fun v hv=>HFIN.out w2 wr v HASK.out HBR.out hv HZ.out);have HOO:=Hd HO.out;clear HO;go_wp2_with fail;exact HF.out _ HOO.out
end
open Go.RowKit
theorem Znf {w:World} {a:Option Addr} {c:Nat} {zs:List Int} (hz:Zay w a zs) {g:Nat} {caps:Array Value} {p:Int->Bool} (eg:∀ args w,(callFunc g args).run Tryz.prog w=.ok (.enter g args) w)
 (hp:∀ z,Calls Tryz.prog g (#[.int .i64 z]++caps) w fun x w'=>x=.returned (.bool (p z))/\w=w') :
 Calls Tryz.prog 118 #[.slice a zs.length c,.func (.func g) #[] caps] w fun x w'=>(∃ i:Int,x=.returned (.int .i64 i)/\decide (i>=0)=zs.any p)/\w=w':=by
 obtain⟨P,hP⟩:∃ P:Ending->World->Prop,P=fun x w'=>(∃ i:Int,x=.returned (.int .i64 i)/\decide (i>=0)=zs.any p)/\w=w':=⟨_,rfl⟩
 have HPE:=Hd hP;have HCK:Hid (∀ k,k<zs.length->∃ b off,a=some ⟨b,off,none⟩/\w.cell? ⟨b,off+k,none⟩=some (.int .i64 (at0 zs k))):=Hd hz.cells;have hl:=hz.len;have HP:=Hd hp;rw[<- hP];clear hP hz hp
 go_enter Tryz.func118,Tryz.ntmps118
 go_wp2_with fail
 go_loopw [4,5,8] (fun _ _ s8 wr=>∃ k:Nat,k<=zs.length/\s8=.int .i64 (k:Int)/\Hid (w=wr)/\Hid (∀ j,j<k->p (at0 zs j)=false)) (fun _ _ s8 _=>zs.length-(intOf s8).toNat)
 case atStart=>exact⟨0,Nat.zero_le _,rfl,Hd rfl,Hd (fun j hj=>by omega)⟩
 case round =>
  obtain⟨k,hk,rfl,HW,HQ⟩:=hrel;have hw:=HW.out;subst hw
  by_cases hlt:k<zs.length
  ·
   have hkz:(k:Int)<(zs.length:Int):=by omega
   obtain⟨b,off,rfl,ck⟩:=HCK.out k hlt;obtain⟨z,hzz⟩:∃ z,z=at0 zs k:=⟨_,rfl⟩;rw[<- hzz] at ck;cases hpz:p z with
   | true =>
     have hc:=HP.out z;rw[hpz] at hc;have HC:=Hd hc
     have HF:Hid (P (.returned (.int .i64 (k:Int))) w):=Hd (by
      rw[HPE.out];refine⟨⟨_,rfl,?_⟩,rfl⟩;rw[decide_eq_true (by omega)];refine(List.any_eq_true.2 ⟨z,?_,hpz⟩).symm;rw[hzz,Zb0 hlt];exact List.getElem_mem hlt)
     clear hc hpz hzz HP HCK HQ;go_wp2_with fail;refine HC.out.mono ?_;rintro x w' ⟨rfl,rfl⟩;go_wp2_with fail;exact HF.out
   | false =>
     have hc:=HP.out z;rw[hpz] at hc;have HC:=Hd hc;have HQ2:Hid (∀ j,j<k+1->p (at0 zs j)=false):=Hd fun j hj=>by
      rcases(show j<k\/j=k by omega) with e|rfl
      ·
       exact HQ.out j e
      ·
       rw[<- hzz];exact hpz
     clear hc hpz hzz HP HCK HQ;go_wp2_with fail;refine HC.out.mono ?_;rintro x w' ⟨rfl,rfl⟩;go_wp2_with fail;go_roundw
     case rel=>exact⟨k+1,by omega,by rw[show ((k+1:Nat):Int)=(k:Int)+1 by omega],Hd trivial,HQ2⟩
     case measure=>simp[intOf];omega
  ·
   obtain rfl:k=zs.length:=by omega
   have hnlt:¬ (zs.length:Int)<(zs.length:Int):=by omega
   have HF:Hid (P (.returned (.int .i64 (-1))) w):=Hd (by
    rw[HPE.out];refine⟨⟨_,rfl,?_⟩,rfl⟩;rw[show zs.any p=false from ?_]
    ·
     rfl
    ·
     rw[List.any_eq_false];intro z hz;obtain⟨i,hi,rfl⟩:=List.getElem_of_mem hz;have:=HQ.out i hi;rw[Zb0 hi] at this;simp[this])
   clear HP HCK HQ;go_wp2_with fail;exact HF.out
theorem Zjf {w:World} {a:Option Addr} {c:Nat} {zs:List Int} (hz:Zay w a zs) {g:Nat} {caps:Array Value} {p:Int->Bool} (eg:∀ args w,(callFunc g args).run Tryz.prog w=.ok (.enter g args) w)
 (hp:∀ z,Calls Tryz.prog g (#[.int .i64 z]++caps) w fun x w'=>x=.returned (.bool (p z))/\w=w') :
 Calls Tryz.prog 73 #[.slice a zs.length c,.func (.func g) #[] caps] w fun x w'=>x=.returned (.bool (zs.any p))/\w=w':=by
 have HI:=Hd (Znf (c:=c) hz eg hp);clear hz eg hp
 go_enter Tryz.func73,Tryz.ntmps73
 go_wp2_with fail;refine HI.out.mono ?_;rintro x w' ⟨⟨i,rfl,hi⟩,rfl⟩;have HF:=Hd hi;clear hi HI;go_wp2_with fail;go_ret;refine⟨?_,rfl⟩;rw[<- HF.out];rfl
theorem Zm7 (args:Array Value) (w:World):(callFunc 74 args).run Tryz.prog w=.ok (.enter 74 args) w:=enters_of Tryz.func74 (by kernel_rfl) rfl args w
theorem Zt4 {w:World} {bs sb:Nat} {l:List (Int×Value)} {zs:List Int} (hc:w.cell? ⟨bs,0,none⟩=some (.map (some sb))) (hm:Zaz w sb (Value.int .i64) l) (hl:∀ z,getL l z=if z∈zs then some (.bool true) else none) (z:Int) :
 Calls Tryz.prog 74 #[.int .i64 z,.pointer (some ⟨bs,0,none⟩)] w fun x w'=>x=.returned (.bool (!decide (z∈zs)))/\w=w':=by
 have hlk:=hm.lookup Zkk Tryz.underlying97 Tryz.zeroValue4 z false;rw[hl z] at hlk
 by_cases e:z∈zs
 ·
  rw[if_pos e] at hlk;rw[decide_eq_true e];have hlk2:(Instr.lookup 97 (.map (some sb)) (.int .i64 z) false).run Tryz.prog w=.ok (.bool true) w:=hlk;clear hm hl hlk e
  go_enter Tryz.func74,Tryz.ntmps74
  go_wp2_with fail;go_ret;exact⟨rfl,rfl⟩
 ·
  rw[if_neg e] at hlk;rw[decide_eq_false e];have hlk2:(Instr.lookup 97 (.map (some sb)) (.int .i64 z) false).run Tryz.prog w=.ok (.bool false) w:=hlk;clear hm hl hlk e
  go_enter Tryz.func74,Tryz.ntmps74
  go_wp2_with fail;go_ret;exact⟨rfl,rfl⟩
open Go.RowKit
theorem Zwo {n:Nat} {G:BF} (hd:DepF n G) {v:Nat} (h:Zbn n G v=false):Indep G v:=by
 have hc:∀ b,DepF n (cofF G v b):=fun b ρ ρ' he=>by
  rw[Zcl,Zcl];refine hd _ _ fun i hi=>?_
  unfold upd;split
  ·
   rfl
  ·
   exact he i hi
 refine Zhp.2 (Zye (hc false) (hc true) ?_);unfold Zbn at h;simpa using h
theorem Ybn {n:Nat} {G:BF} (hd:DepF n G) {zs:List Int} (h1:∀ z∈zs,0<=z/\z<(n:Int)) (h2:∀ v:Nat,v<n->Zbn n G v=true->(v:Int)∈zs) :
 totN n (fun _=>none) G/2^(n-(setL zs).length)=cntV n G zs:=by
 have e:totN n (fun _=>none) G=totN n (Zd6 n zs) G:=by
  unfold totN;rw[Zua (n:=n) (fx:=Zd6 n zs) (fun v hv=>Zkg v hv) (fun v hv hs=>?_)]
  ·
   rfl
  ·
   refine Zwo hd ?_;cases hh:Zbn n G v with
   | false=>rfl
   | true =>
     have:=h2 v hv hh;unfold Zd6 at hs;rw[if_neg (fun c=>c.2 this)] at hs;cases hs
 rw[e,(Zs3 h1).1,Zqq n G _ (fun v hv=>Zkg v hv)];rfl
section
variable {K:Law} {n:Nat} {Od:List Nat->Prop} {room:Nat} {w0 w w1 w2:World} {mb:Nat} {fs:List (Int×BF)} {nx:Int} {o:Own} {m:ManD} {V:Nat->BF}
theorem AskN.trans {v:Value} {o1:Own} {m1:ManD} (h1:ChgX NoB o o1 w w1) (hw:m1.waits=m.waits) (hv:m1.d.vars=m.d.vars) (h:AskN K n Od room w0 mb fs nx m1 o1 w1 w2 v):AskN K n Od room w0 mb fs nx m o w w2 v:=by
 obtain⟨o',m',V',q1,q2,q3,q4,q5⟩:=h;exact⟨o',m',V',h1.trans q1 (fun _ _ e=>e),q2.trans hw,q3.trans hv,q4,q5⟩
theorem Zn4 (h:SatE K n Od room w0 mb fs nx w o m V) {k:Int} {G:BF} (hf:(k,G)∈fs) {zs:List Int} {a:Option Addr} {c:Nat} (hz:Zay w a zs) :
 Calls Tryz.prog 31 #[.pointer (some ⟨mb,0,none⟩),.int .i64 k,.slice a zs.length c] w fun x w'=>∃ v,x=.returned (.tuple #[v,.int .i64 (cntE n G zs)])/\NatV w' v (if cntE n G zs=0 then cntV n G zs else 0)/\AskN K n Od room w0 mb fs nx m o w w' v:=by
 have HA:=Hd (Zfi h k (b:=true) (by simp only[true_iff];exact⟨G,hf⟩));have hn64:n<=64:=by have:=h.ok.store.small;rw[h.vars] at this;exact this
 have hl:=hz.len;obtain⟨sb,hsb⟩:∃ sb,sb=w.heap.size:=⟨_,rfl⟩;obtain⟨w1,hw1⟩:∃ w1,w1=(w.alloc (.map #[] 0)).alloc (.cells #[.map (some w.heap.size)] 97):=⟨_,rfl⟩;have hb1:Below w.heap.size w w1:=by rw[hw1];exact(Zaf _ _).alloc (by simp) _
 have gm:Zaz w1 sb (Value.int .i64) (setL (zs.take 0)):=by
  rw[hw1,hsb];exact(Zd7 w _).below (Zaf _ _)
 have gb:w1.heap[sb+1]?=some (.cells #[.map (some sb)] 97 (0,0)):=by
  have:=heap_alloc_new (w.alloc (.map #[] 0)) (.cells #[.map (some w.heap.size)] 97);rw[World.size_alloc] at this;rw[hw1,hsb];exact this
 obtain⟨I,hI⟩:∃ I:Nat->World->Prop,I=fun i wr=>Zaz wr sb (Value.int .i64) (setL (zs.take i))/\wr.cell? ⟨sb+1,0,none⟩=some (.map (some sb))/\Below w.heap.size w wr/\∀ z∈zs.take i,0<=z/\z<(n:Int):=⟨_,rfl⟩
 have HI0:Hid (I 0 w1):=Hd (by rw[hI];exact⟨gm,cell1 gb,hb1,by simp⟩);obtain⟨P,hP⟩:∃ P:Ending->World->Prop,P=fun x w'=>∃ v,x=.returned (.tuple #[v,.int .i64 (cntE n G zs)])/\NatV w' v (if cntE n G zs=0 then cntV n G zs else 0)/\AskN K n Od room w0 mb fs nx m o w w' v:=⟨_,rfl⟩
 have HX:Hid (∀ i wr,i<zs.length->I i wr->wr.cell? ⟨sb+1,0,none⟩=some (.map (some sb))/\(∃ b off,a=some ⟨b,off,none⟩/\wr.cell? ⟨b,off+i,none⟩=some (.int .i64 (at0 zs i)))/\Calls Tryz.prog 42 #[.pointer (some ⟨mb,0,none⟩)] wr (fun x w''=>x=.returned (.int .i64 (n:Nat))/\wr=w'') /\
  (0<=at0 zs i/\at0 zs i<(n:Int)->∃ w3,(Instr.mapUpdate 97 (.map (some sb)) (.int .i64 (at0 zs i)) (.bool true)).run Tryz.prog wr=.ok () w3/\I (i+1) w3) /\
  (¬ (0<=at0 zs i/\at0 zs i<(n:Int))->P (.returned (.tuple #[.slice none 0 0,.int .i64 9])) wr)):=by
  rw[hI];refine Hd fun i wr hi hh=>?_
  obtain⟨h1,h2,h3,h4⟩:=hh;have hs:=h.below h3;refine⟨h2,?_,?_,fun hr=>?_,fun hr=>?_⟩
  ·
   obtain⟨b,off,e,hc⟩:=hz.cells i hi;exact⟨b,off,e,(h3.cell (p:=⟨b,off+i,none⟩) (Zab hc)).trans hc⟩
  ·
   have hv:=Zdm hs.is;rw[hs.vars] at hv;exact hv
  ·
   obtain⟨w3,r1,r2,r3⟩:=h1.update Zkk Tryz.underlying97 (at0 zs i) (.bool true);have hw:Wr (· = sb) wr w3:=Wr.of_grown r3 _ (fun k e=>by cases e;rfl);have et:zs.take (i+1)=zs.take i++[at0 zs i]:=by rw[List.take_add_one,getElem?_at0 hi];rfl
   refine⟨w3,r1,?_,?_,?_,?_⟩
   ·
    rw[et,Zx6];exact r2
   ·
    exact(World.cell?_of_block (w:=wr) (a:=⟨sb+1,0,none⟩) (hw.keep (sb+1) (Zab h2) (fun e=>by have e:sb+1=sb:=e;omega))).trans h2
   ·
    exact h3.trans (hw.below (fun k e=>by have e:k=sb:=e;omega) h3.size)
   ·
    intro z hz';rw[et] at hz';rcases List.mem_append.1 hz' with e|e
    ·
     exact h4 z e
    ·
     simp at e;rw[e];exact hr
  ·
   rw[hP];have he:cntE n G zs=9:=by
    unfold cntE;rw[if_neg];intro hall;exact hr (hall _ (by rw[Zb0 hi];exact List.getElem_mem hi))
   refine⟨.slice none 0 0,by rw[he],?_,AskN.of h h3 0⟩;rw[he,if_neg (by decide)];exact Zhx wr
 have HEND:Hid (∀ wr,I zs.length wr->Calls Tryz.prog 72 #[.pointer (some ⟨mb,0,none⟩),.int .i64 k] wr fun x w5=>∃ a5 c5 bb,x=.returned (.tuple #[.slice a5 (supL n G n).length c5,.int .i64 0]) /\
  Calls Tryz.prog 73 #[.slice a5 (supL n G n).length c5,.func (.func 74) #[] #[.pointer (some ⟨sb+1,0,none⟩)]] w5 (fun x w'=>x=.returned (.bool bb)/\w5=w') /\
  (bb=true->P (.returned (.tuple #[.slice none 0 0,.int .i64 1])) w5) /\
  (bb=false->Calls Tryz.prog 43 #[.pointer (some ⟨mb,0,none⟩),.int .i64 k,.map none] w5 fun x w6=>∃ v6,x=.returned (.tuple #[v6,.int .i64 0]) /\
   ∀ wz,Below w6.heap.size w6 wz->wz.cell? ⟨sb+1,0,none⟩=some (.map (some sb))/\Zaz wz sb (Value.int .i64) (setL zs)/\Calls Tryz.prog 42 #[.pointer (some ⟨mb,0,none⟩)] wz (fun x w''=>x=.returned (.int .i64 (n:Nat))/\wz=w'') /\
    IntKind.i64.wrap ((n:Int)-((setL zs).length:Nat))=(n:Int)-((setL zs).length:Nat) /\
    (Calls Tryz.prog 44 #[v6,.int .i64 ((n:Int)-((setL zs).length:Nat))] wz fun x w9=>∃ v9,x=.returned v9/\(w9.cell? ⟨sb+1,0,none⟩=some (.map (some sb))/\Zaz w9 sb (Value.int .i64) (setL zs))/\P (.returned (.tuple #[v9,.int .i64 0])) w9))):=by
  rw[hI];refine Hd fun wr hh=>?_
  obtain⟨h1,h2,h3,h4⟩:=hh;rw[List.take_length] at h1 h4;have hs:=h.below h3;refine(Zrx hs hf).mono ?_;rintro x w5 ⟨v5,rfl,hown,o5,m5,V5,hc5,hw5,hv5,hs5⟩;obtain⟨a5,c5,rfl,hz5,_⟩:=hown.sliceIs (by have:=Zs8 n G n;omega);have hno:o sb=none:=h.lt.none (by omega);have hno2:o (sb+1)=none:=h.lt.none (by omega);have hm5:Zaz w5 sb (Value.int .i64) (setL zs):=h1.keepB (hc5.block sb h1.lt hno (fun e=>e));have hb5:w5.cell? ⟨sb+1,0,none⟩=some (.map (some sb)):=hc5.cell h2 hno2 (fun e=>e);have hask5:AskN K n Od room w0 mb fs nx m o w w5 (.slice none 0 0):=⟨o5,m5,V5,(ChgX.of_below h3 o NoB).trans hc5 (fun _ _ e=>e),hw5,hv5,hs5,fun q e=>by cases e⟩;obtain⟨bb,hbb⟩:∃ bb,bb=(supL n G n).any fun z => !decide (z∈zs):=⟨_,rfl⟩
  have hiff:bb=true↔¬ ∀ v:Nat,v<n->Zbn n G v=true->(v:Int)∈zs:=by
   rw[hbb,List.any_eq_true];constructor
   ·
    rintro⟨z,q1,q2⟩ hall;unfold supL at q1;obtain⟨v,q3,rfl⟩:=List.mem_map.1 q1;obtain⟨q4,q5⟩:=List.mem_filter.1 q3;have:=hall v (List.mem_range.1 q4) q5;simp[this] at q2
   ·
    intro hall;refine Classical.byContradiction fun hno=>hall fun v hv hh=>?_
    refine Classical.byContradiction fun hnz=>hno ⟨(v:Int),List.mem_map.2 ⟨v,List.mem_filter.2 ⟨List.mem_range.2 hv,hh⟩,rfl⟩,by simp[hnz]⟩
  refine⟨a5,c5,bb,rfl,?_,fun hbt=>?_,fun hbf=>?_⟩
  ·
   rw[hbb];exact Zjf hz5 Zm7 (fun z=>Zt4 hb5 hm5 (fun z=>Zs2 zs z) z)
  ·
   rw[hP];have he:cntE n G zs=1:=by
    unfold cntE;rw[if_pos h4,if_neg (hiff.1 hbt)]
   refine⟨.slice none 0 0,by rw[he],?_,hask5⟩;rw[he,if_neg (by decide)];exact Zhx w5
  ·
   have hall:∀ v:Nat,v<n->Zbn n G v=true->(v:Int)∈zs:=Classical.byContradiction fun hc=>by
    have:=hiff.2 hc;rw[hbf] at this;cases this
   have he:cntE n G zs=0:=by
    unfold cntE;rw[if_pos h4,if_pos hall]
   refine(Zqu hs5 hf).mono ?_;rintro x w6 ⟨v6,rfl,hv6,o6,m6,V6,hc6,hw6,hvr6,hs6,hq6⟩;refine⟨v6,rfl,fun wz hbz=>?_⟩;have hno5:o5 sb=none:=hc5.none' h1.lt hno;have hno6:o5 (sb+1)=none:=hc5.none' (Zab h2) hno2;have hmz:Zaz wz sb (Value.int .i64) (setL zs):=(hm5.keepB (hc6.block sb hm5.lt hno5 (fun e=>e))).below hbz;have hbz5:wz.cell? ⟨sb+1,0,none⟩=some (.map (some sb)):=(hbz.cell (p:=⟨sb+1,0,none⟩) (Zab (hc6.cell hb5 hno6 (fun e=>e)))).trans (hc6.cell hb5 hno6 (fun e=>e));have hsz:=hs6.below hbz;obtain⟨hl1,hl2⟩:=Zs3 h4;refine⟨hbz5,hmz,?_,IntWalk.i64_in _ ⟨by omega,by omega⟩,?_⟩
   ·
    have hv:=Zdm hsz.is;rw[hsz.vars] at hv;exact hv
   ·
    rw[show (n:Int)-((setL zs).length:Nat)=((n-(setL zs).length:Nat):Int) by omega];refine(Zpc (hv6.below hbz) (by omega)).mono ?_;rintro x w9 ⟨⟨v9,rfl,hv9,hq9⟩,hb9⟩;refine⟨v9,rfl,⟨(hb9.cell (p:=⟨sb+1,0,none⟩) (Zab hbz5)).trans hbz5,hmz.below hb9⟩,?_⟩;rw[hP];rw[Ybn (h.dep hf) h4 hall] at hv9;refine⟨v9,by rw[he],by rw[he,if_pos rfl];exact hv9,?_⟩;have hask6:AskN K n Od room w0 mb fs nx m5 o5 w5 w6 v6:=⟨o6,m6,V6,hc6,hw6,hvr6,hs6,hq6⟩;exact((AskN.trans ((ChgX.of_below h3 o NoB).trans hc5 (fun _ _ e=>e)) hw5 hv5 hask6).next hbz (fun q e=>.inl e)).next hb9 hq9
 have HW1:Hid (_=w1):=Hd hw1.symm;have HSB:=Hd hsb;have hmf:∀ (fn:Fn) (first cap:Array Value) (w:World),(Instr.makeFunc fn first cap).run Tryz.prog w=.ok (.func fn first cap) w:=fun _ _ _ _=>rfl
 have hmm:=fun t w=>Zb2 (P:=Tryz.prog) w t
 rw[<- hP];clear hP hI h hf hz hsb hw1 hb1 gm gb
 go_enter Tryz.func31,Tryz.ntmps31
 go_wp2_with fail;refine HA.out.mono ?_;rintro x w' ⟨rfl,rfl⟩;clear HA;go_upto_region 5 with fail;rw[HW1.out,<- HSB.out];clear HW1;go_wp2_with fail
 go_loopw [6,7,11,22] (fun _ _ _ s22 wr=>∃ i:Nat,i<=zs.length/\s22=.int .i64 (i:Int)/\Hid (I i wr)) (fun _ _ _ s22 _=>zs.length-(intOf s22).toNat)
 case atStart=>exact⟨0,Nat.zero_le _,rfl,HI0⟩
 case round =>
  obtain⟨i,hi,rfl,HI⟩:=hrel
  by_cases hlt:i<zs.length
  ·
   have hiz:(i:Int)<(zs.length:Int):=by omega
   obtain⟨cbx,⟨b,off,rfl,ck⟩,hv,hup,hbad⟩:=HX.out i wr hlt HI.out;have HV:=Hd hv;obtain⟨z,hz⟩:∃ z,z=at0 zs i:=⟨_,rfl⟩;rw[<- hz] at ck hup hbad;clear hv HX HEND HI HI0 hz
   by_cases hr:0<=z/\z<(n:Int)
   ·
    obtain⟨w3,hrun,hI3⟩:=hup hr;have HI3:=Hd hI3;have hz1:¬ z<0:=by omega
    have hz2:¬ z>=(n:Int):=by omega
    clear hI3 hup hbad hr;go_wp2_with fail;refine HV.out.mono ?_;rintro x w' ⟨rfl,rfl⟩;go_wp2_with fail;go_roundw
    case rel=>exact⟨i+1,by omega,by rw[show ((i+1:Nat):Int)=(i:Int)+1 by omega],HI3⟩
    case measure=>simp[intOf];omega
   ·
    have HF:=Hd (hbad hr);clear hup hbad
    by_cases hz1:z<0
    ·
     clear hr;go_wp2_with fail
     first|exact HF.out|exact bodyPost_ret (results_tmp2 rfl _ _ _) rfl HF.out
    ·
     have hz2:z>=(n:Int):=by omega
     clear hr;go_wp2_with fail;refine HV.out.mono ?_;rintro x w' ⟨rfl,rfl⟩;go_wp2_with fail
     first|exact HF.out|exact bodyPost_ret (results_tmp2 rfl _ _ _) rfl HF.out
  ·
   obtain rfl:i=zs.length:=by omega
   have hnlt:¬ (zs.length:Int)<(zs.length:Int):=by omega
   have HS:=Hd (HEND.out wr HI.out);clear HX HEND HI HI0;go_wp2_with fail;refine HS.out.mono ?_;rintro x w5 ⟨a5,c5,bb,rfl,q1,q2,q3⟩;have HC:=Hd q1;clear q1 HS;cases bb with
   | true =>
     have HF:=Hd (q2 rfl);clear q2 q3;go_wp2_with fail;refine HC.out.mono ?_;rintro x w' ⟨rfl,rfl⟩;go_wp2_with fail
     first|exact HF.out|exact bodyPost_ret (results_tmp2 rfl _ _ _) rfl HF.out
   | false =>
     have HT:=Hd (q3 rfl);clear q2 q3;go_wp2_with fail;refine HC.out.mono ?_;rintro x w' ⟨rfl,rfl⟩;clear HC;go_wp2_with fail;refine HT.out.mono ?_;rintro x w6 ⟨v6,rfl,q⟩;obtain⟨wz,hwz⟩:∃ wz,wz=w6.drew:=⟨_,rfl⟩;have HWZ:=Hd hwz;obtain⟨r1,r2,r3,hwr,r4⟩:=q wz (by rw[hwz];exact Zah w6 1);have HV:=Hd r3;have HH:=Hd r4;clear r3 r4 q hwz HT;go_upto_region 20 with fail;refine Zem [0,1,3,2,4,5,6,7,8] (fun W'=>W'.cell? ⟨sb+1,0,none⟩=some (.map (some sb))/\Zaz W' sb (Value.int .i64) (setL zs)) (fun ch w'=>False) (fun c a w hd h=>h.elim) (by kernel_rfl) (by rw[<- HWZ.out];exact⟨r1,r2⟩) ?_;rw[<- HWZ.out]
     iterate 3
      refine Zcr rfl rfl (by kernel_rfl) ?_;apply Exists.intro;refine⟨fun w' hw=>?_,?_⟩
      ·
       obtain⟨q1,q2⟩:=hw;go_simp;rfl
      simp only[Zag]
     refine Zbb (R1:=fun u w'=>u=.int .i64 (n:Nat)/\wz=w') rfl (by kernel_rfl) rfl rfl (by go_simp) (HV.out.mono fun x w' h=>⟨_,h.1,rfl,h.2⟩) (by rintro u w' ⟨_,rfl⟩;exact⟨r1,r2⟩) ?_;rintro u w'-⟨rfl,rfl⟩;simp only[Zag]
     iterate 2
      refine Zcr rfl rfl (by kernel_rfl) ?_;apply Exists.intro;refine⟨fun w' hw=>?_,?_⟩
      ·
       obtain⟨q1,q2⟩:=hw;have hlen:=fun ty=>q2.size (P:=Tryz.prog) Tryz.underlying97 ty
       go_simp;rfl
      simp only[Zag]
     refine Zbb (R1:=fun u w'=>(w'.cell? ⟨sb+1,0,none⟩=some (.map (some sb))/\Zaz w' sb (Value.int .i64) (setL zs))/\P (.returned (.tuple #[u,.int .i64 0])) w') rfl (by kernel_rfl) rfl rfl (by go_simp) (HH.out.mono fun x w' ⟨v9,e,q1,q2⟩=>⟨v9,e,q1,q2⟩) (by rintro u w' ⟨q,_⟩;exact q) ?_;rintro u w9-⟨_,hp⟩;have HF:=Hd hp;clear hp r1 r2 HH HV;simp only[Zag]
     iterate 2
      refine Zcr rfl rfl (by kernel_rfl) ?_;apply Exists.intro;refine⟨fun w' hw=>?_,?_⟩
      ·
       go_simp;rfl
      simp only[Zag]
     refine Zi8 (by kernel_rfl) ?_;go_wp2_with fail
     first|exact HF.out|exact bodyPost_ret (results_tmp2 rfl _ _ _) rfl HF.out
end
open Go.RowKit
structure Zfu (w:World) (a:Option Addr) (l:List (Int×Bool)):Prop where
 len:l.length<=9223372036854775807
 cells:∀ k,∀ hk:k<l.length,∃ b off,a=some ⟨b,off,none⟩/\w.cell? ⟨b,off+k*2,none⟩=some (.int .i64 l[k].1)/\w.cell? ⟨b,off+k*2+1,none⟩=some (.bool l[k].2)
theorem Zfu.keep {w w':World} {a:Option Addr} {l:List (Int×Bool)} (h:Zfu w a l) (hk:l≠[]->∀ x v,a=some x->∀ o,w.cell? ⟨x.block,o,none⟩=some v->w'.cell? ⟨x.block,o,none⟩=some v):Zfu w' a l :=
 ⟨h.len,fun k hkl=>by
  obtain⟨b,off,e,c0,c1⟩:=h.cells k hkl;have hne:l≠[]:=fun e=>by subst e;simp at hkl
  exact⟨b,off,e,hk hne _ _ e _ c0,hk hne _ _ e _ c1⟩⟩
theorem Zfu.below {w w':World} {a:Option Addr} {l:List (Int×Bool)} (h:Zfu w a l) (hb:Below w.heap.size w w'):Zfu w' a l :=
 h.keep fun _ x v _ o hc=>(hb.cell (p:=⟨x.block,o,none⟩) (Zab hc)).trans hc
def Zhs (n:Nat) (l:List (Int×Bool)):Int:=if ∀ p∈l,0<=p.1/\p.1<(n:Int) then if (l.map (·.1)).Nodup then 0 else 6 else 9
open Go.RowKit
def mLt (ls:List (Int×Bool)):List (Int×Value):=ls.map fun p=>(p.1,(.bool p.2:Value))
def fxL:List (Int×Bool)->Int->Option Bool
 | [],_=>none
 | p::r,z=>if p.1=z then some p.2 else fxL r z
theorem Zzi (ls:List (Int×Bool)):(mLt ls).map Prod.fst=ls.map (·.1):=by simp[mLt,Function.comp_def]
theorem Znk (ls:List (Int×Bool)) (z:Int):getL (mLt ls) z=(fxL ls z).map Value.bool:=by
 unfold getL;have:∀ (l:List (Int×Bool)) (i:Nat),(Zbw z (mLt l) i).map (·.2)=(fxL l z).map Value.bool:=by
  intro l
  induction l with
  | nil=>intro i;rfl
  | cons p r ih =>
    intro i
    show (if p.1=z then some (i,(.bool p.2:Value)) else Zbw z (mLt r) (i+1)).map (·.2)=(if p.1=z then some p.2 else fxL r z).map Value.bool
    by_cases e:p.1=z
    ·
     rw[if_pos e,if_pos e];rfl
    ·
     rw[if_neg e,if_neg e];exact ih _
 exact this ls 0
theorem Zgp (ls:List (Int×Bool)) (z:Int):(fxL ls z).isSome=true↔z∈ls.map (·.1):=by
 have h:=Zsn (l:=mLt ls) z;rw[Zzi,Znk] at h;rw[h];cases fxL ls z<;>simp
theorem Ycc {ls:List (Int×Bool)} {z:Int} (y:Bool) (h:z∉ls.map (·.1)):putL z (.bool y) (mLt ls)=mLt (ls++[(z,y)]):=by
 have hg:getL (mLt ls) z=none:=by
  rw[Znk];cases hh:fxL ls z with
  | none=>rfl
  | some b=>exact absurd ((Zgp ls z).1 (by rw[hh];rfl)) h
 unfold getL at hg;unfold putL;cases hc:Zbw z (mLt ls) 0 with
 | none=>simp[mLt]
 | some q=>rw[hc] at hg;simp at hg
theorem Ycb (ls:List (Int×Bool)):(mLt ls).length=ls.length:=by simp[mLt]
theorem Yb2 {ls:List (Int×Bool)} (hn:(ls.map (·.1)).Nodup) {p:Int×Bool} (hp:p∈ls):fxL ls p.1=some p.2:=by
 induction ls with
 | nil=>cases hp
 | cons q r ih =>
   rw[List.map_cons,List.nodup_cons] at hn
   show (if q.1=p.1 then some q.2 else fxL r p.1)=_
   rcases List.mem_cons.1 hp with e|e
   ·
    rw[<- e,if_pos rfl]
   ·
    rw[if_neg (fun c=>hn.1 (by rw[c];exact List.mem_map.2 ⟨p,e,rfl⟩))];exact ih hn.2 e
theorem Yay {ls:List (Int×Bool)} {z:Int} {b:Bool} (h:fxL ls z=some b):(z,b)∈ls:=by
 induction ls with
 | nil=>cases h
 | cons q r ih =>
   unfold fxL at h
   by_cases e:q.1=z
   ·
    rw[if_pos e] at h;have:q=(z,b):=Prod.ext e (Option.some.inj h);rw[<- this];exact List.mem_cons_self ..
   ·
    rw[if_neg e] at h;exact List.mem_cons_of_mem _ (ih h)
def fxV (ls:List (Int×Bool)) (v:Nat):Option Bool:=fxL ls (v:Int)
theorem Zsq (fx:Nat->Option Bool) (l:List Int):∀ n:Nat,(∀ v:Nat,v<n->((fx v).isSome=true↔(v:Int)∈l))->nfix n fx=Zik n l
 | 0,_=>rfl
 | n+1,h=>by
   unfold nfix Zik;rw[Zsq fx l n fun v hv=>h v (by omega)]
   by_cases e:(n:Int)∈l
   ·
    rw[if_pos e,if_pos ((h n (by omega)).2 e)]
   ·
    rw[if_neg e,if_neg (fun c=>e ((h n (by omega)).1 c))]
theorem Zwj {n:Nat} {ls:List (Int×Bool)} (h1:∀ p∈ls,0<=p.1/\p.1<(n:Int)) (h2:(ls.map (·.1)).Nodup):nfix n (fxV ls)=ls.length/\∀ v,n<=v->fxV ls v=none:=by
 constructor
 ·
  have e:=Zsq (fxV ls) (List.map (fun x:Int×Bool=>x.1) ls) n (fun v _=>Zgp ls (v:Int))
  rw[e,<- Zh0 n _ h2 (fun z hz=>by
   obtain⟨p,hp,rfl⟩:=List.mem_map.1 hz;exact h1 p hp)]
  simp
 ·
  intro v hv;cases hh:fxV ls v with
  | none=>rfl
  | some b =>
    have:=h1 _ (Yay hh);exfalso;have h3:(v:Int)<(n:Int):=this.2;omega
def wayV (n:Nat) (G:BF) (ls:List (Int×Bool)):Nat:=(tabB n fun σ=>G σ&&agF n (fxV ls) σ).count true
theorem Ycv {n:Nat} {G:BF} {ls:List (Int×Bool)} (h1:∀ p∈ls,0<=p.1/\p.1<(n:Int)) (h2:(ls.map (·.1)).Nodup):totN n (fxV ls) G/2^ls.length=wayV n G ls:=by
 obtain⟨q1,q2⟩:=Zwj h1 h2;rw[<- q1,Zqq n G _ q2];rfl
theorem Zr7 {n:Nat} {ls:List (Int×Bool)} (h1:∀ p∈ls,0<=p.1/\p.1<(n:Int)) (h2:(ls.map (·.1)).Nodup) (σ:Nat->Bool):agF n (fxV ls) σ=ls.all fun p=>σ p.1.toNat == p.2:=by
 have:agF n (fxV ls) σ=true↔(ls.all fun p=>σ p.1.toNat == p.2)=true:=by
  rw[Zvq,List.all_eq_true];constructor
  ·
   intro h p hp;have hr:=h1 p hp;have:=h p.1.toNat (by omega) p.2 (by unfold fxV;rw[show ((p.1.toNat:Nat):Int)=p.1 by omega];exact Yb2 h2 hp);simp[this]
  ·
   intro h v hv b hb;have:=h _ (Yay hb);simpa using this
 cases ha:agF n (fxV ls) σ<;>cases hb:(ls.all fun p=>σ p.1.toNat == p.2)<;>simp_all
open Go.RowKit
section
variable {K:Law} {n:Nat} {Od:List Nat->Prop} {room:Nat} {w0 w:World} {mb:Nat} {fs:List (Int×BF)} {nx:Int} {o:Own} {m:ManD} {V:Nat->BF}
theorem Zsl {n:Nat} {ls:List (Int×Bool)} (h:∀ p∈ls,0<=p.1/\p.1<(n:Int)):Zhs n ls=if (ls.map (·.1)).Nodup then 0 else 6:=by
 unfold Zhs;rw[if_pos h]
theorem Zw4 {n:Nat} {ls:List (Int×Bool)} {p:Int×Bool} (hp:p∈ls) (h:¬ (0<=p.1/\p.1<(n:Int))):Zhs n ls=9:=if_neg fun hh=>h (hh p hp)
end
open Go.RowKit
section
variable {P:Program} {ops:Array Oper} {S:World->Prop} {Q:Exit->Act->World->Prop} {last:Bool}
end
section
variable {K:Law} {n:Nat} {Od:List Nat->Prop} {room:Nat} {w0:World} {mb:Nat} {fs hs hl hx:List (Int×BF)} {nx:Int} {Wt:List Ev->Int->Prop} {W w w':World} {o o':Own} {m m':ManD} {V V':Nat->BF} {vl vx:Value}
end
open Go.RowKit
def StF (K:Law) (n room:Nat) (w0:World) (mb:Nat) (fs:List (Int×BF)) (nx:Int) (ws0:List Ev) (rs:List (Value×BF)) (W:World):Prop:=∃ o m V,m.waits <:+ ws0/\SatE K n (fun _=>True) room w0 mb fs nx W o m V/\∀ p∈rs,LawF W o p.1 (tabB n p.2)
section
variable {K:Law} {n room:Nat} {w0 w W w':World} {mb:Nat} {fs fs':List (Int×BF)} {nx nx':Int} {o:Own} {m:ManD} {V:Nat->BF} {ws0:List Ev} {rs:List (Value×BF)} {f:Nat} {args:Array Value}
theorem StF.go {R:Ending->Prop} (h:StF K n room w0 mb fs nx ws0 rs w) (hc:∀ o m V,m.waits <:+ ws0->SatE K n (fun _=>True) room w0 mb fs nx w o m V->Calls Tryz.prog f args w fun x w'=>R x/\Goes K n (fun _=>True) room w0 mb fs' nx' (W2 (SufW ws0)) o w w') :
 Calls Tryz.prog f args w fun x w'=>R x/\StF K n room w0 mb fs' nx' ws0 rs w':=by
 obtain⟨o,m,V,h1,h2,h3⟩:=h;refine(hc o m V h1 h2).mono ?_;rintro x w' ⟨q1,o',m',V',q2,q3,q4⟩;exact⟨q1,o',m',V',q3,q4,fun p hp=>(h3 p hp).chg q2⟩
theorem StF.of (hw:m.waits <:+ ws0) (h:SatE K n (fun _=>True) room w0 mb fs nx w o m V) (hr:∀ p∈rs,LawF w o p.1 (tabB n p.2)):StF K n room w0 mb fs nx ws0 rs w:=⟨o,m,V,hw,h,hr⟩
end
open Go.RowKit
theorem NatV.blk {w:World} {v:Value} {x:Nat} (h:NatV w v x) (hx:x≠0) {q:Nat} (hq:v.ownBlock=some q):q<w.heap.size:=by
 obtain⟨a,c,rfl,_,_,hu⟩:=h;have hl:0<(digD x).length:=by rw[Zdo hx];simp
 obtain⟨b,off,rfl,hc⟩:=hu.cells 0 hl;have:b=q:=Option.some.inj hq;rw[<- this];exact Zab hc
theorem NatV.chg {w w':World} {o o':Own} {v:Value} {x:Nat} (h:NatV w v x) (hq:x≠0->∀ q,v.ownBlock=some q->o q=none) (hc:ChgX NoB o o' w w'):NatV w' v x/\(x≠0->∀ q,v.ownBlock=some q->o' q=none):=by
 by_cases hx:x=0
 ·
  subst hx;obtain⟨a,c,h1,h2,h3,h4⟩:=h;refine⟨⟨a,c,h1,h2,h3,⟨h4.len,h4.ok,fun k hk=>?_⟩⟩,fun e=>absurd rfl e⟩;rw[Zbl] at hk;cases hk
 ·
  exact⟨h.keepO fun q e=>hc.block q (h.blk hx e) (hq hx q e) (fun e=>e),fun _ q e=>hc.none' (h.blk hx e) (hq hx q e)⟩
def StK (K:Law) (n room:Nat) (w0:World) (mb:Nat) (fs:List (Int×BF)) (nx:Int) (ws0:List Ev) (ns:List (Value×Nat)) (W:World):Prop :=
 ∃ o m V,m.waits <:+ ws0/\SatE K n (fun _=>True) room w0 mb fs nx W o m V/\∀ p∈ns,NatV W p.1 p.2/\(p.2≠0->∀ q,p.1.ownBlock=some q->o q=none)
section
variable {K:Law} {n room:Nat} {w0 w w':World} {mb:Nat} {fs:List (Int×BF)} {nx:Int} {ws0:List Ev} {ns:List (Value×Nat)} {f:Nat} {args:Array Value}
theorem StF.toK (h:StF K n room w0 mb fs nx ws0 [] w):StK K n room w0 mb fs nx ws0 [] w:=by
 obtain⟨o,m,V,h1,h2,_⟩:=h;exact⟨o,m,V,h1,h2,fun p hp=>by cases hp⟩
theorem StK.below (h:StK K n room w0 mb fs nx ws0 ns w) (hb:Below w.heap.size w w'):StK K n room w0 mb fs nx ws0 ns w':=by
 obtain⟨o,m,V,h1,h2,h3⟩:=h;exact⟨o,m,V,h1,h2.below hb,fun p hp=>⟨(h3 p hp).1.below hb,(h3 p hp).2⟩⟩
theorem StK.below0 (h:StK K n room w0 mb fs nx ws0 ns w):Below w0.heap.size w0 w:=by
 obtain⟨o,m,V,h1,h2,_⟩:=h;exact h2.chg.below0
theorem StK.nat (h:StK K n room w0 mb fs nx ws0 ns w) {v:Value} {x:Nat} (hp:(v,x)∈ns):NatV w v x:=by
 obtain⟨o,m,V,h1,h2,h3⟩:=h;exact(h3 _ hp).1
theorem StK.askN {R:Ending->Value->Prop} {x:Nat} (h:StK K n room w0 mb fs nx ws0 ns w) (hc:∀ o m V,SatE K n (fun _=>True) room w0 mb fs nx w o m V->Calls Tryz.prog f args w fun e w'=>∃ v,R e v/\NatV w' v x/\AskN K n (fun _=>True) room w0 mb fs nx m o w w' v) :
 Calls Tryz.prog f args w fun e w'=>∃ v,R e v/\StK K n room w0 mb fs nx ws0 (ns++[(v,x)]) w':=by
 obtain⟨o,m,V,h1,h2,h3⟩:=h;refine(hc o m V h2).mono ?_;rintro e w' ⟨v,q1,q2,o',m',V',q3,q4,q5,q6,q7⟩;refine⟨v,q1,o',m',V',by rw[q4];exact h1,q6,fun p hp=>?_⟩;rcases List.mem_append.1 hp with e|e
 ·
  exact(h3 p e).1.chg (h3 p e).2 q3
 ·
  simp at e;rw[e];exact⟨q2,fun _=>q7⟩
end
open Go.RowKit
section
variable {K:Law} {n:Nat} {room:Nat} {w0 w w':World} {mb:Nat} {fs:List (Int×BF)} {nx:Int} {o:Own} {m:ManD} {V:Nat->BF} {ws0:List Ev}
theorem Ya8 (hK:Zc8 K) (h:SatE K n (fun _=>True) room w0 mb fs nx w o m V) (hw:m.waits <:+ ws0) (hn:nx<=549755813888) (hr:(fs.length+1)*2^n<=room) {v:Nat} (hv:v<n) :
 Calls Tryz.prog 30 #[.pointer (some ⟨mb,0,none⟩),.int .i64 v] w fun x w''=>x=.returned (.tuple #[.int .i64 nx,.int .i64 0])/\Goes K n (fun _=>True) room w0 mb (fs++[(nx,varF v)]) (nx+1) (W2 (SufW ws0)) o w w'':=by
 refine(Zmc hK h ws0 hw none (fun _ e=>by cases e) (fun _ e=>by cases e) (fun ev _=>Zl7 hn ev) (by omega) v hv).mono ?_;rintro x w'' hp;obtain⟨o2,m2,V2,q1,q2,q3,q4⟩:=Zpz hp Nat.one_le_two_pow hr;exact⟨q3,o2,m2,V2,q1,q2,q4⟩
end
open Go.RowKit
abbrev S19 (w:World) (mb:Nat) (fs:List (Int×BF)) (nx:Int) (W:World):Prop:=StF Zhq 3 20000 w mb fs nx [] [] W
def l19A:List (Int×BF):=two++[(2,varF 0)]
def l19B:List (Int×BF):=l19A++[(3,varF 2)]
def l19F:BF:=Zdc (varF 0) (fun _=>true) (varF 2)
def l19C:List (Int×BF):=l19B++[(4,l19F)]
theorem Yb6:cntV 3 l19F [2,0,1,0]=6:=by decide
theorem Zwx:cntE 3 l19F [2,0,1,0]=0:=by
 unfold cntE;rw[if_pos (by intro z hz;simp at hz;omega),if_pos];intro v hv _;rcases(show v=0\/v=1\/v=2 by omega) with rfl|rfl|rfl<;>simp
theorem Yb7:totN 3 (fun _=>none) l19F=6:=by decide
theorem Zkq (w:World):Calls Tryz.prog 6 #[] w fun x w'=>x=.returned (.bool true)/\Below w.heap.size w w':=by
 have HNEW:=Hd (Zzo (K:=Zhq) 3 20000 w (by omega) (by omega) (by omega));have HV0:Hid (∀ mb W,S19 w mb two 2 W->Calls Tryz.prog 30 #[.pointer (some ⟨mb,0,none⟩),.int .i64 0] W fun x w'=>x=.returned (.tuple #[.int .i64 2,.int .i64 0])/\S19 w mb l19A 3 w') :=
  Hd fun mb W g=>g.go fun o m V hw hs=>Ya8 Zf6 hs hw (by omega) (by decide) (v:=0) (by omega)
 have HV2:Hid (∀ mb W,S19 w mb l19A 3 W->Calls Tryz.prog 30 #[.pointer (some ⟨mb,0,none⟩),.int .i64 2] W fun x w'=>x=.returned (.tuple #[.int .i64 3,.int .i64 0])/\S19 w mb l19B 4 w') :=
  Hd fun mb W g=>g.go fun o m V hw hs=>Ya8 Zf6 hs hw (by omega) (by decide) (v:=2) (by omega)
 have HIT:Hid (∀ mb W,S19 w mb l19B 4 W->Calls Tryz.prog 18 #[.pointer (some ⟨mb,0,none⟩),.int .i64 2,.int .i64 1,.int .i64 3] W fun x w'=>x=.returned (.tuple #[.int .i64 4,.int .i64 0])/\S19 w mb l19C 5 w') :=
  Hd fun mb W g=>g.go fun o m V hw hs=>Yc7 Zf6 hs hw (by omega) (by decide) (kf:=2) (kg:=1) (kh:=3) (F:=varF 0) (G:=fun _=>true) (H:=varF 2) (by simp[l19B,l19A]) (by simp[l19B,l19A,two]) (by simp[l19B])
 have HCN:Hid (∀ mb W,S19 w mb l19C 5 W->Calls Tryz.prog 31 #[.pointer (some ⟨mb,0,none⟩),.int .i64 4,.slice (some ⟨W.heap.size,0,none⟩) 4 4] (W.alloc (.cells #[.int .i64 2,.int .i64 0,.int .i64 1,.int .i64 0] 3)) fun x w'=>∃ v,x=.returned (.tuple #[v,.int .i64 0])/\StK Zhq 3 20000 w mb l19C 5 [] [(v,6)] w') :=
  Hd fun mb W g=>(g.toK.below (Zaf W _)).askN (x:=6) fun o m V hs=>(Zn4 hs (k:=4) (G:=l19F) (by simp[l19C]) (c:=4) (Zma W [2,0,1,0] (by simp))).mono (by
   rintro x w' ⟨v,rfl,q2,q3⟩;rw[Zwx,if_pos rfl,Yb6] at q2;exact⟨v,by rw[Zwx],q2,q3⟩)
 have HSH:Hid (∀ mb W ns,StK Zhq 3 20000 w mb l19C 5 [] ns W->Calls Tryz.prog 32 #[.pointer (some ⟨mb,0,none⟩),.int .i64 4] W fun x w'=>∃ v,x=.returned (.tuple #[v,.int .i64 2,.int .i64 0])/\StK Zhq 3 20000 w mb l19C 5 [] (ns++[(v,3)]) w') :=
  Hd fun mb W ns g=>g.askN (x:=3) fun o m V hs=>(Zn5 hs (k:=4) (G:=l19F) (by simp[l19C]) Yb7.symm (r:=(3,2)) (by decide)).mono (by
   rintro x w' ⟨v,rfl,q2,q3⟩;exact⟨v,rfl,q2,q3⟩)
 go_enter Tryz.func6,Tryz.ntmps6
 go_wp2_with fail;refine HNEW.out.mono ?_;rintro x w1 ⟨mb,rfl,o,m,V,hst,hwt,_,hmn⟩;have H1:=Hd (HV0.out mb w1 (StF.of (by rw[hwt];exact List.suffix_refl _) hst (by simp)));clear hst hwt hmn HNEW HV0;go_wp2_with fail;refine H1.out.mono ?_;rintro x w2 ⟨rfl,h2⟩;have H2:=Hd (HV2.out mb w2 h2);clear h2 H1 HV2;go_wp2_with fail;refine H2.out.mono ?_;rintro x w3 ⟨rfl,h3⟩;have H3:=Hd (HIT.out mb w3 h3);clear h3 H2 HIT;go_wp2_with fail;refine H3.out.mono ?_;rintro x w4 ⟨rfl,h4⟩;have H4:=Hd (HCN.out mb w4 h4);clear h4 H3 HCN;go_wp2_with fail;refine H4.out.mono ?_;rintro x w5 ⟨v5,rfl,h5⟩;have H5:=Hd (HSH.out mb w5 _ h5);clear h5 H4 HSH;go_wp2_with fail;refine H5.out.mono ?_;rintro x w6 ⟨s6,rfl,h6⟩;have HB6:=Hd h6.below0;have HO6:=Hd (Zhk (w:=w6) (n:=6) (by omega));have HN6:Hid (∀ W,Below w6.heap.size w6 W->NatV W v5 6):=Hd fun W hb=>(h6.nat (v:=v5) (x:=6) (by simp)).below hb
 have HM6:Hid (∀ W,Below w6.heap.size w6 W->NatV W s6 3):=Hd fun W hb=>(h6.nat (v:=s6) (x:=3) (by simp)).below hb
 clear h6 H5;go_wp2_with fail;refine HO6.out.mono ?_;rintro x w7 ⟨⟨v7,rfl,n7⟩,hb7⟩;have HB7:=Hd hb7;have HC7:=Hd (Ze2 (HN6.out w7 hb7) n7);clear n7 hb7 HO6 HN6;go_wp2_with fail;refine HC7.out.mono ?_;rintro x w8 ⟨rfl,hb8⟩;have HB8:=Hd (HB7.out.trans (hb8.mono HB7.out.size));have HO8:=Hd (Zhk (w:=w8) (n:=3) (by omega));clear hb8 HB7 HC7;rw[show cmpZ 6 6=0 from rfl];go_wp2_with fail;refine HO8.out.mono ?_;rintro x w9 ⟨⟨v9,rfl,n9⟩,hb9⟩;have HB9:=Hd (HB8.out.trans (hb9.mono HB8.out.size));have HC9:=Hd (Ze2 (HM6.out w9 HB9.out) n9);clear n9 hb9 HO8 HM6 HB8;go_wp2_with fail;refine HC9.out.mono ?_;rintro x wa ⟨rfl,hba⟩;have HBA:=Hd (HB6.out.trans ((HB9.out.trans (hba.mono HB9.out.size)).mono HB6.out.size));clear hba HC9 HB9;rw[show cmpZ 3 3=0 from rfl];go_wp2_with fail;go_ret;exact⟨rfl,HBA.out⟩
end Go.Proofs.YtlgogjbkadckkaaGreat
