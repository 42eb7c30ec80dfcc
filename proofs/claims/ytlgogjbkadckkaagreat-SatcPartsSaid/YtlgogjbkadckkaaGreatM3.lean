/- Several texts in one file: contracts of the program's functions and what follows from them. -/
import Derived.Test.YtlgogjbkadckkaaGreatM2
import Derived.RangeFuncNested
import Derived.RangeFuncBound
import Derived.RangeFuncCalls
import Derived.RangeFuncLeaves
import Derived.RangeFuncWrites
import Derived.Shelf.Abstract
import Derived.Shelf.RegionOpen
import Derived.OwnWalkIn
import Derived.TacticsInMore
import Derived.LoopNIn
import Derived.LoopIn
import Derived.Recover
import Derived.Defers
set_option linter.unusedSimpArgs false
set_option linter.unusedVariables false
set_option linter.unusedSectionVars false
set_option linter.unnecessarySimpa false
set_option maxRecDepth 100000
set_option maxHeartbeats 8000000
namespace Go.Proofs.YtlgogjbkadckkaaGreat
open Go.RowKit
def atV (d:Zac) (f:Nat):Value :=
 match Zaa d (f/2) with
 | some b=>.tuple #[.int .i64 b.v,.int .i64 (eflip b.lo (eneg f):Nat),.int .i64 (eflip b.hi (eneg f):Nat),.bool true]
 | none=>.tuple #[.int .i64 (-1),.int .i64 0,.int .i64 0,.bool false]
theorem Zit {o:Own} {w:World} {sb:Nat} {d:Zac} {V:Nat->BF} (h:Zaq o w sb d) (hlt:Zai o w) (hk:Zaj d V) (f:Nat) (hf:okE (Zaa d) f) :
 Calls Tryz.prog 124 #[.pointer (some ⟨sb,0,none⟩),.int .i64 f] w fun x w'=>x=.returned (atV d f)/\Below w.heap.size w w':=by
 obtain⟨s,h⟩:=h;have lt:∀ e,okE (Zaa d) e->e<eMax:=fun e he=>by have:=h.edge_lt he;unfold eMax;omega
 cases hb:Zaa d (f/2) with
 | none =>
   have ht:d.pool.tk (enode f)=false:=Zga hb;have hz:d.pool.has (enode f)=rn0:=by unfold Zak.has;rw[ht];rfl
   refine(Zk4 h hlt f (lt f hf) (by rw[hz];decide) (by rw[hz];decide)).mono ?_;rintro x w' ⟨rfl,hb'⟩;exact⟨by simp[ht,atV,hb],hb'⟩
 | some b =>
   have hn:=Zav hb;have ht:d.pool.tk (enode f)=true:=hn.1;have hbn:bnOf (d.pool.has (enode f))=b:=hn.2.2;have e1:(d.pool.has (enode f)).v=b.v:=by rw[<- hbn];rfl
   have e2:(d.pool.has (enode f)).lo=b.lo:=by rw[<- hbn];rfl
   have e3:(d.pool.has (enode f)).hi=b.hi:=by rw[<- hbn];rfl
   refine(Zk4 h hlt f (lt f hf) (by rw[e2];exact lt _ (hk.dag.okLo _ _ hb)) (by rw[e3];exact lt _ (hk.dag.okHi _ _ hb))).mono ?_;rintro x w' ⟨rfl,hb'⟩;exact⟨by simp[ht,atV,hb,e1,e2,e3],hb'⟩
theorem Zaq.below {o:Own} {w w':World} {sb:Nat} {d:Zac} (h:Zaq o w sb d) (hlt:Zai o w) (hb:Below w.heap.size w w'):Zaq o w' sb d:=by
 obtain⟨s,h⟩:=h;exact⟨s,h.below hlt hb⟩
theorem Zo1 {F:Phi} {o:Own} {w:World} {xb mb:Nat} {m:ManD} {V:Nat->BF} (h:Zd0 F o w mb m) (hx:Zer o w xb mb) (hk:Zaj m.d V) (v:Int) :
 Calls Tryz.prog 125 #[.pointer (some ⟨xb,0,none⟩),.int .i64 v] w fun x w'=>x=.returned (.int .i64 (Zfr m.d v))/\w=w':=by
 obtain⟨s,h⟩:=h;obtain⟨st,hst⟩:=h.store;obtain⟨c0,c1,c2,c3,c4,c5,f0⟩:=cells6 h.blk;have HL:=Hd (Zhe hst v (by rw[hst.len];have:=hk.small;omega));have cx:=hx.cell;clear h hst hx hk
 go_enter Tryz.func125,Tryz.ntmps125
 go_wp2_with fail;refine HL.out.mono ?_;rintro x w' ⟨rfl,rfl⟩;go_wp2_with fail;go_ret;exact⟨rfl,rfl⟩
def cofs (d:Zac) (f:Nat) (v:Int):Nat×Nat :=
 match Zaa d (f/2) with
 | some b=>if (b.v:Int)=v then (eflip b.lo (eneg f),eflip b.hi (eneg f)) else (f,f)
 | none=>(f,f)
theorem Zek {F:Phi} {o:Own} {w:World} {xb mb:Nat} {m:ManD} {V:Nat->BF} (h:Zd0 F o w mb m) (hlt:Zai o w) (hx:Zer o w xb mb) (hk:Zaj m.d V) (f:Nat) (hf:okE (Zaa m.d) f) (v:Int) :
 Calls Tryz.prog 88 #[.pointer (some ⟨xb,0,none⟩),.int .i64 f,.int .i64 v] w fun x w'=>x=.returned (.tuple #[.int .i64 (cofs m.d f v).1,.int .i64 (cofs m.d f v).2])/\Below w.heap.size w w':=by
 obtain⟨s,h⟩:=h;obtain⟨c0,c1,c2,c3,c4,c5,f0⟩:=cells6 h.blk;have HA:=Hd (Zit h.store hlt hk f hf);have cx:=hx.cell;clear h hx hk hlt hf;unfold atV at HA;unfold cofs;cases hb:Zaa m.d (f/2) with
 | none =>
   rw[hb] at HA;clear hb
   go_enter Tryz.func88,Tryz.ntmps88
   go_wp2_with fail;refine HA.out.mono ?_;rintro x w' ⟨rfl,hb⟩;have HB:=Hd hb;clear hb;go_wp2_with fail
   go_ret2
   exact⟨rfl,HB.out⟩
 | some b =>
   rw[hb] at HA;clear hb
   by_cases e:(b.v:Int)=v
   ·
    subst e;have HE:Hid ((if (b.v:Int)=b.v then (eflip b.lo (eneg f),eflip b.hi (eneg f)) else (f,f))=(eflip b.lo (eneg f),eflip b.hi (eneg f))):=by show _=_;rw[if_pos rfl]
    go_enter Tryz.func88,Tryz.ntmps88
    go_wp2_with fail;refine HA.out.mono ?_;rintro x w' ⟨rfl,hb⟩;have HB:=Hd hb;clear hb;go_wp2_with fail
    go_ret2
    exact⟨by first|rfl|(rw[HE.out];rfl),HB.out⟩
   ·
    have HE:Hid ((if (b.v:Int)=v then (eflip b.lo (eneg f),eflip b.hi (eneg f)) else (f,f))=(f,f)):=by show _=_;rw[if_neg e]
    have H1:((b.v:Int) == v)=false:=by simpa using e
    go_enter Tryz.func88,Tryz.ntmps88
    go_wp2_with fail;refine HA.out.mono ?_;rintro x w' ⟨rfl,hb⟩;have HB:=Hd hb;clear hb;go_wp2_with fail
    go_ret2
    exact⟨by first|rfl|(rw[HE.out];rfl),HB.out⟩
def TopS (d:Zac) (zs:List Nat) (top least:Int):Prop :=
 (top = -1/\least=0/\∀ e∈zs,Zaa d (e/2)=none) \/
 ∃ v:Nat,top=v/\least=(levN d v:Nat)/\v<d.vars.length/\(∃ e∈zs,∃ b,Zaa d (e/2)=some b/\b.v=v)/\∀ e∈zs,levN d v<=lvE d.vars.length (levN d) (Zaa d) e
theorem TopS.none {d:Zac} {zs:List Nat} {top least:Int} {e:Nat} (h:TopS d zs top least) (hl:∀ v,v<d.vars.length->levN d v<d.vars.length) (he:Zaa d (e/2)=none):TopS d (zs++[e]) top least:=by
 rcases h with ⟨h1,h2,h3⟩|⟨v,h1,h2,h3,⟨e0,he0,hb⟩,h5⟩
 ·
  refine .inl ⟨h1,h2,fun x hx=>?_⟩;rcases List.mem_append.1 hx with hx|hx
  ·
   exact h3 x hx
  ·
   simp at hx;subst hx;exact he
 ·
  refine .inr ⟨v,h1,h2,h3,⟨e0,by simp[he0],hb⟩,fun x hx=>?_⟩;rcases List.mem_append.1 hx with hx|hx
  ·
   exact h5 x hx
  ·
   simp at hx;subst hx;unfold lvE;rw[he];exact Nat.le_of_lt (hl v h3)
theorem TopS.keep {d:Zac} {zs:List Nat} {v:Nat} {least:Int} {e:Nat} {b:BN} (h:TopS d zs v least) (he:Zaa d (e/2)=some b) (hle:¬ ((levN d b.v:Nat):Int)<least):TopS d (zs++[e]) v least:=by
 rcases h with ⟨h1,h2,h3⟩|⟨u,h1,h2,h3,⟨e0,he0,hb⟩,h5⟩
 ·
  omega
 ·
  obtain rfl:v=u:=by omega
  refine .inr ⟨v,rfl,h2,h3,⟨e0,by simp[he0],hb⟩,fun x hx=>?_⟩;rcases List.mem_append.1 hx with hx|hx
  ·
   exact h5 x hx
  ·
   simp at hx;subst hx;unfold lvE;rw[he];dsimp only;omega
theorem TopS.take {d:Zac} {zs:List Nat} {top least:Int} {e:Nat} {b:BN} (h:TopS d zs top least) (hv:b.v<d.vars.length) (hl:∀ v,v<d.vars.length->levN d v<d.vars.length) (he:Zaa d (e/2)=some b) (hle:top<0\/((levN d b.v:Nat):Int)<least):TopS d (zs++[e]) b.v (levN d b.v:Nat):=by
 refine .inr ⟨b.v,rfl,rfl,hv,⟨e,by simp,b,he,rfl⟩,fun x hx=>?_⟩;rcases List.mem_append.1 hx with hx|hx
 ·
  rcases h with ⟨h1,h2,h3⟩|⟨u,h1,h2,h3,⟨e0,he0,hb⟩,h5⟩
  ·
   unfold lvE;rw[h3 x hx];exact Nat.le_of_lt (hl _ hv)
  ·
   have:=h5 x hx;omega
 ·
  simp at hx;subst hx;unfold lvE;rw[he];exact Nat.le_refl _
theorem Zpq {d:Zac} {v:Nat} (h:v<d.level.length):Zfr d v=(levN d v:Nat):=by unfold Zfr;rw[if_pos ⟨by omega,by omega⟩];rfl
theorem Zgk {F:Phi} {o:Own} {w:World} {xb mb:Nat} {m:ManD} {V:Nat->BF} (h:Zd0 F o w mb m) (hlt:Zai o w) (hx:Zer o w xb mb) (hk:Zaj m.d V) (zs:List Nat) (hz:∀ e∈zs,okE (Zaa m.d) e) (a:Option Addr) (c:Nat) (hzs:Zay w a (zs.map Int.ofNat)) :
 Calls Tryz.prog 87 #[.pointer (some ⟨xb,0,none⟩),.slice a zs.length c] w fun x w'=>∃ top least,x=.returned (.int .i64 top)/\TopS m.d zs top least/\Below w.heap.size w w':=by
 obtain⟨s,h⟩:=h;obtain⟨st,hst⟩:=h.store;have hlen:m.d.level.length=m.d.vars.length:=hst.len;have HM:=Hd h;have HX:=Hd hx;have HLT:=Hd hlt;have HK:=Hd hk;have HZ:=Hd hz;have HZS:=Hd hzs;have hzl:=hzs.len;simp only[List.length_map] at hzl;clear h hst hx hlt hk hz hzs
 go_enter Tryz.func87,Tryz.ntmps87
 go_wp2_with fail
 go_loopw [5,6,15] (fun s5 s6 i wr=>∃ (k:Nat) (top least:Int),k<=zs.length/\i=.int .i64 k/\s5=.int .i64 top/\s6=.int .i64 least/\TopS m.d (zs.take k) top least/\Below w.heap.size w wr) (fun _ _ i _=>zs.length-(intOf i).toNat)
 case atStart=>exact⟨0,-1,0,by omega,rfl,rfl,rfl,.inl ⟨rfl,rfl,by simp⟩,Below.refl _ _⟩
 case round =>
  obtain⟨k,top,least,hk,rfl,rfl,rfl,hT,hB⟩:=hrel
  by_cases hkl:k<zs.length
  ·
   obtain⟨b0,off,ha,hcell⟩:=(HZS.out.below hB).cells k (by simpa using hkl);subst ha;have he:at0 (zs.map Int.ofNat) k=(zs[k]:Int):=by rw[Zb0 (by simpa using hkl)];simp
   rw[he] at hcell;have hmem:zs[k]∈zs:=List.getElem_mem hkl;have htk:zs.take (k+1)=zs.take k++[zs[k]]:=by rw[List.take_add_one,List.getElem?_eq_getElem hkl];rfl
   have hok:=HZ.out _ hmem;obtain⟨f,hf⟩:∃ f,f=zs[k]:=⟨_,rfl⟩;rw[<- hf] at hcell hok htk;obtain⟨c0,c1,c2,c3,c4,c5,f0⟩:=cells6 ((HM.out.below HLT.out hB).blk);have cx:wr.cell? ⟨xb,0,none⟩=_:=(hB.cell (p:=⟨xb,0,none⟩) (Zab HX.out.cell)).trans HX.out.cell;have HA:=Hd (Zit ((HM.out.below HLT.out hB).store) (HLT.out.mono hB.size) HK.out f hok);have HTK:=Hd htk;have HT:=Hd hT;have HB:=Hd hB;have hkl':(k:Int)<zs.length:=by omega
   clear hf hmem he hT hB hok htk;unfold atV at HA;have HLV:Hid (∀ v,v<m.d.vars.length->levN m.d v<m.d.vars.length):=Hd HK.out.dag.lt;have HCL:=Hd (fun W hb v=>Zo1 ⟨s,HM.out.below HLT.out hb⟩ (o:=o) (w:=W) (xb:=xb) (mb:=mb) ⟨(hb.cell (p:=⟨xb,0,none⟩) (Zab HX.out.cell)).trans HX.out.cell,HX.out.own⟩ HK.out v);cases hb:Zaa m.d (f/2) with
   | none =>
     rw[hb] at HA;have HN:=Hd hb;clear hb;go_wp2_with fail;refine HA.out.mono ?_;rintro x w' ⟨rfl,hb2⟩;have HB2:=Hd (HB.out.trans (hb2.mono HB.out.size));clear hb2;go_wp2_with fail;go_roundw
     case rel=>exact⟨k+1,top,least,by omega,by simp,rfl,rfl,by rw[HTK.out];exact HT.out.none HLV.out HN.out,HB2.out⟩
     case measure=>simp[intOf];omega
   | some b =>
     rw[hb] at HA;have HN:=Hd hb;have hbv:=HK.out.dag.var _ _ hb;have hlz:Zfr m.d b.v=(levN m.d b.v:Nat):=Zpq (by rw[hlen];exact hbv);have HBV:=Hd hbv;have HCL2:=Hd (fun W hb=>HCL.out W hb b.v);rw[hlz] at HCL2;clear hb hbv hlz HCL
     by_cases ht:top<0
     ·
      have HTT:=Hd ht;go_wp2_with fail;refine HA.out.mono ?_;rintro x w' ⟨rfl,hb2⟩;have HB2:=Hd (HB.out.trans (hb2.mono HB.out.size));clear hb2;go_wp2_with fail;refine(HCL2.out _ HB2.out).mono ?_;rintro x w'' ⟨rfl,rfl⟩;go_wp2_with fail;go_roundw
      case rel=>exact⟨k+1,_,_,by omega,by simp,rfl,rfl,by rw[HTK.out];exact HT.out.take HBV.out HLV.out HN.out (.inl HTT.out),HB2.out⟩
      case measure=>simp[intOf];omega
     ·
      by_cases hle:((levN m.d b.v:Nat):Int)<least
      ·
       have HLE:=Hd hle;go_wp2_with fail;refine HA.out.mono ?_;rintro x w' ⟨rfl,hb2⟩;have HB2:=Hd (HB.out.trans (hb2.mono HB.out.size));clear hb2;go_wp2_with fail;refine(HCL2.out _ HB2.out).mono ?_;rintro x w'' ⟨rfl,rfl⟩;go_wp2_with fail;refine(HCL2.out _ HB2.out).mono ?_;rintro x w'' ⟨rfl,rfl⟩;go_wp2_with fail;go_roundw
       case rel=>exact⟨k+1,_,_,by omega,by simp,rfl,rfl,by rw[HTK.out];exact HT.out.take HBV.out HLV.out HN.out (.inr HLE.out),HB2.out⟩
       case measure=>simp[intOf];omega
      ·
       obtain⟨tn,htn⟩:∃ tn:Nat,top=tn:=⟨top.toNat,by omega⟩;subst htn;have HLE:=Hd hle;go_wp2_with fail;refine HA.out.mono ?_;rintro x w' ⟨rfl,hb2⟩;have HB2:=Hd (HB.out.trans (hb2.mono HB.out.size));clear hb2;go_wp2_with fail;refine(HCL2.out _ HB2.out).mono ?_;rintro x w'' ⟨rfl,rfl⟩;go_wp2_with fail;go_roundw
       case rel=>exact⟨k+1,_,_,by omega,by simp,rfl,rfl,by rw[HTK.out];exact HT.out.keep HN.out (by have:=HLE.out;omega),HB2.out⟩
       case measure=>simp[intOf];omega
  ·
   obtain rfl:k=zs.length:=by omega
   have HT:=Hd hT;have HB:=Hd hB;clear hT hB;go_wp2_with fail;go_ret;exact⟨top,least,rfl,by have:=HT.out;rwa [List.take_length] at this,HB.out⟩
open Go.RowKit
def Zb8 (er:Int) (event:Bool) (ev:Ev):Ending:=.panicked [{ v:=.iface 178 (.agg #[.int .i64 er,.bool event,.int .i64 ev.after,.int .i64 ev.kind,.int .i64 ev.level]),recovered:=false }]
def ev0:Ev:=⟨0,0,0⟩
def Zce (c:Int):Int:=wrap64 (c+1)
def Zmx (d:Zac) (v:Int) (lo hi:Nat) (er:Int):Prop :=
 (er=9/\¬ (0<=v/\v<d.vars.length)) \/
 (er=10/\0<=v/\v<d.vars.length/\(lvE d.vars.length (levN d) (Zaa d) lo<=levN d v.toNat\/lvE d.vars.length (levN d) (Zaa d) hi<=levN d v.toNat)) \/
 (er=7/\d.pool.many=d.pool.room)
def Zhi (K:Law) (o:Own) (w:World) (mb:Nat) (m:ManD) (V:Nat->BF) (v:Int) (lo hi:Nat) (e:Ending) (w':World):Prop :=
 ∃ o' m' V',Step K o w mb m V o' w' m' V' /\
  ((∃ ev,m.waits=ev::m'.waits/\ev.after<=Zce m.calls/\m'.calls=0/\m'.d=m.d/\V'=V/\e=Zb8 0 true ev) \/
   (m'.waits=m.waits/\m'.calls=Zce m.calls/\(∀ ev ws,m.waits=ev::ws->Zce m.calls<ev.after) /\
    ((∃ er,Zmx m.d v lo hi er/\m'.d=m.d/\V'=V/\e=Zb8 er false ev0) \/
     (0<=v/\v<m.d.vars.length/\∃ r:Nat,e=.returned (.int .i64 r)/\okE (Zaa m'.d) r/\ef V' r=iteF v.toNat (ef V hi) (ef V lo) /\
      levN m.d v.toNat<=lvE m.d.vars.length (levN m'.d) (Zaa m'.d) r/\m'.d.pool.many<=m.d.pool.many+1))))
theorem Chg.ofDrewN {R:Role->Prop} {o o':Own} {w w':World} {n:Nat} (h:Chg R o o' (w.drewN n) w'):Chg R o o' w w':=⟨h.os,h.tape,h.output,h.size,h.block,h.ext,h.new⟩
theorem Zg8 {w w':World} {n:Nat} (h:Below (w.drewN n).heap.size (w.drewN n) w'):Below w.heap.size w w':=⟨h.os,h.tape,h.output,h.size,h.block⟩
theorem Chg.any {R:Role->Prop} {o o':Own} {w w':World} (h:Chg R o o' w w'):Chg (fun _=>True) o o' w w':=h.mono fun _ _=>trivial
theorem Zy3 {K:Law} {o:Own} {w:World} {xb mb:Nat} {m:ManD} {V:Nat->BF} (hK:Zc8 K) (h:Zd0 (K m.d V) o w mb m) (hlt:Zai o w) (hx:Zer o w xb mb) (hk:Zaj m.d V) (v:Int) (lo hi:Nat) (hlo:okE (Zaa m.d) lo) (hhi:okE (Zaa m.d) hi)
 (hdue:∀ ev ws,m.waits=ev::ws->Zce m.calls<ev.after) :
 Calls Tryz.prog 71 #[.pointer (some ⟨xb,0,none⟩),.int .i64 v,.int .i64 lo,.int .i64 hi] w (Zhi K o w mb m V v lo hi):=by
 obtain⟨s,h⟩:=h;obtain⟨c0,c1,c2,c3,c4,c5,f0⟩:=cells6 h.blk;have cx:=hx.cell;obtain⟨W,hW⟩:∃ W,W=w.setCell ⟨mb,5,none⟩ (.int .i64 (Zce m.calls)):=⟨_,rfl⟩;have hMW:Zbz (K m.d V) o W mb { m with calls:=Zce m.calls } s:=by rw[hW];exact h.field rfl rfl rfl rfl rfl h.waits rfl
 have hCW:Chg (fun _=>True) o o w W:=by rw[hW];exact(Chg.refl _ o w).setCell (p:=⟨mb,5,none⟩) h.own trivial _
 have hLW:Zai o W:=hlt.mono hCW.size;have hXW:=hx.chg hCW;obtain⟨d0,d1,d2,d3,d4,d5,g0⟩:=cells6 hMW.blk;have dx:=hXW.cell;obtain⟨aw,cw,hvw,hnil⟩:=hMW.waits.slice;have hwl:(m.waits=[]/\True)\/∃ ev ws,m.waits=ev::ws:=by cases m.waits with
  | nil=>exact .inl ⟨rfl,trivial⟩
  | cons ev ws=>exact .inr ⟨ev,ws,rfl⟩
 have HK:=Hd hK;have HCW:=Hd hCW;have HLW:=Hd hLW;have HMW:=Hd hMW;have HOK:=Hd hk;have HMK:Hid (∀ n,Calls Tryz.prog 116 #[.pointer (some ⟨s.sb,0,none⟩),.int .i64 v,.int .i64 lo,.int .i64 hi] (W.drewN n) (Zve o (W.drewN n) s.sb m.d V v lo hi)) :=
  Hd fun n=>Zrv (hMW.store.below hLW (Zah W n)) (hLW.mono (Zah W n).size) hk v lo hi hlo hhi
 have HDUE:=Hd hdue;have HW:Hid (w.setCell ⟨mb,5,none⟩ (.int .i64 (wrap64 (m.calls+1)))=W):=Hd hW.symm;have hneg:5≠4:=by decide
 clear h hlt hx hk hlo hhi hMW hCW hLW hXW hW hdue
 go_enter Tryz.func71,Tryz.ntmps71
 go_upto_region 3 with fail;rw[HW.out];obtain⟨cu,hcu⟩:∃ cu,cu=wrap64 (m.calls+1):=⟨_,rfl⟩;have d5':W.cell? ⟨mb,5,none⟩=some (.int .i64 cu):=by rw[hcu];exact d5
 have HCU:Hid (Zce m.calls=cu):=Hd hcu.symm;rw[<- hcu];clear c0 c1 c2 c3 c4 c5 f0 cx hneg d5 hcu;have STE:Hid (∀ w',Below W.heap.size W w'->Step K o w mb m V o w' { m with calls:=Zce m.calls } V) :=
  Hd fun w' hb=>⟨⟨s,HMW.out.below HLW.out hb⟩,HLW.out.mono hb.size,HCW.out.trans (Chg.of_below hb _ _),HOK.out,Ext.refl _ _,rfl,rfl⟩
 rcases hwl with ⟨hw0,_⟩|⟨ev,ws,hw1⟩
 ·
  rw[hvw] at d4;dsimp only at d4;rw[hw0] at d4;have d4':W.cell? ⟨mb,4,none⟩=some (.slice aw 0 cw):=d4;clear d4 hw0 hvw hnil
  go_quiet (fail)
  go_wp2_with fail;refine(HMK.out nq).mono ?_;rintro x w' (⟨q1,rfl,q2⟩|⟨q1,q2,q3,rfl,q4⟩|⟨q1,rfl,q2⟩|⟨q1,q2,r,d',V',o',rfl,q4,q5,q6,q7,q8,q9,q10,q11,q12⟩)
  ·
   have H1:=Hd (STE.out w' (Zg8 q2));have H2:Hid (Zmx m.d v lo hi 9):=Hd (.inl ⟨rfl,q1⟩);clear q1 q2;go_wp2_with fail;refine⟨rfl,o,_,V,H1.out,.inr ⟨rfl,rfl,HDUE.out,.inl ⟨9,H2.out,rfl,rfl,rfl⟩⟩⟩
  ·
   have H1:=Hd (STE.out w' (Zg8 q4));have H2:Hid (Zmx m.d v lo hi 10):=Hd (.inr (.inl ⟨rfl,q1,q2,q3⟩));clear q1 q2 q3 q4;go_wp2_with fail;refine⟨rfl,o,_,V,H1.out,.inr ⟨rfl,rfl,HDUE.out,.inl ⟨10,H2.out,rfl,rfl,rfl⟩⟩⟩
  ·
   have H1:=Hd (STE.out w' (Zg8 q2));have H2:Hid (Zmx m.d v lo hi 7):=Hd (.inr (.inr ⟨rfl,q1⟩));clear q1 q2;go_wp2_with fail;refine⟨rfl,o,_,V,H1.out,.inr ⟨rfl,rfl,HDUE.out,.inl ⟨7,H2.out,rfl,rfl,rfl⟩⟩⟩
  ·
   have H1:Hid (Step K o w mb m V o' w' { m with calls:=Zce m.calls,d:=d' } V'):=Hd ⟨⟨s,(HMW.out.setStore HLW.out q4 q12.ofDrewN).mono fun op a b c r h=>HK.out.ext _ _ _ _ _ _ _ _ _ HOK.out q6 q7 h⟩,q5,HCW.out.trans q12.ofDrewN.any,q6,q7,rfl,rfl⟩;have H2:Hid (_/\_/\_/\_/\_/\_):=Hd ⟨q1,q2,q8,q9,q10,q11⟩;clear q1 q2 q4 q5 q6 q7 q8 q9 q10 q11 q12;go_wp2_with fail;go_ret;obtain⟨a1,a2,a3,a4,a5,a6⟩:=H2.out;exact⟨o',_,V',H1.out,.inr ⟨rfl,rfl,HDUE.out,.inr ⟨a1,a2,r,rfl,a3,a4,a5,a6⟩⟩⟩
 ·
  have HWA:=HMW.out.waits;have e0:({ m with calls:=Zce m.calls }:ManD).waits=ev::ws:=hw1;rw[e0] at HWA;obtain⟨g,off,cap,hvs,hog,hwc,hcm,k0,k1,k2,_⟩:=HWA.first
  have hlt:¬ ev.after<=cu:=by have:=HDUE.out ev ws hw1;rw[HCU.out] at this;omega
  rw[hvs] at d4;have hp:(0:Int)<((ws.length+1:Nat):Int):=by omega
  clear hvw hvs hnil HWA e0 hw1 hog
  go_quiet (fail)
  go_wp2_with fail;refine(HMK.out nq).mono ?_;rintro x w' (⟨q1,rfl,q2⟩|⟨q1,q2,q3,rfl,q4⟩|⟨q1,rfl,q2⟩|⟨q1,q2,r,d',V',o',rfl,q4,q5,q6,q7,q8,q9,q10,q11,q12⟩)
  ·
   have H1:=Hd (STE.out w' (Zg8 q2));have H2:Hid (Zmx m.d v lo hi 9):=Hd (.inl ⟨rfl,q1⟩);clear q1 q2;go_wp2_with fail;refine⟨rfl,o,_,V,H1.out,.inr ⟨rfl,rfl,HDUE.out,.inl ⟨9,H2.out,rfl,rfl,rfl⟩⟩⟩
  ·
   have H1:=Hd (STE.out w' (Zg8 q4));have H2:Hid (Zmx m.d v lo hi 10):=Hd (.inr (.inl ⟨rfl,q1,q2,q3⟩));clear q1 q2 q3 q4;go_wp2_with fail;refine⟨rfl,o,_,V,H1.out,.inr ⟨rfl,rfl,HDUE.out,.inl ⟨10,H2.out,rfl,rfl,rfl⟩⟩⟩
  ·
   have H1:=Hd (STE.out w' (Zg8 q2));have H2:Hid (Zmx m.d v lo hi 7):=Hd (.inr (.inr ⟨rfl,q1⟩));clear q1 q2;go_wp2_with fail;refine⟨rfl,o,_,V,H1.out,.inr ⟨rfl,rfl,HDUE.out,.inl ⟨7,H2.out,rfl,rfl,rfl⟩⟩⟩
  ·
   have H1:Hid (Step K o w mb m V o' w' { m with calls:=Zce m.calls,d:=d' } V'):=Hd ⟨⟨s,(HMW.out.setStore HLW.out q4 q12.ofDrewN).mono fun op a b c r h=>HK.out.ext _ _ _ _ _ _ _ _ _ HOK.out q6 q7 h⟩,q5,HCW.out.trans q12.ofDrewN.any,q6,q7,rfl,rfl⟩;have H2:Hid (_/\_/\_/\_/\_/\_):=Hd ⟨q1,q2,q8,q9,q10,q11⟩;clear q1 q2 q4 q5 q6 q7 q8 q9 q10 q11 q12;go_wp2_with fail;go_ret;obtain⟨a1,a2,a3,a4,a5,a6⟩:=H2.out;exact⟨o',_,V',H1.out,.inr ⟨rfl,rfl,HDUE.out,.inr ⟨a1,a2,r,rfl,a3,a4,a5,a6⟩⟩⟩
open Go.RowKit
theorem Zv7 {K:Law} {o:Own} {w:World} {xb mb:Nat} {m:ManD} {V:Nat->BF} (h:Zd0 (K m.d V) o w mb m) (hlt:Zai o w) (hx:Zer o w xb mb) (hk:Zaj m.d V) (v:Int) (lo hi:Nat) {ev:Ev} {ws:List Ev}
 (hw1:m.waits=ev::ws) (hdue:ev.after<=Zce m.calls) :
 Calls Tryz.prog 71 #[.pointer (some ⟨xb,0,none⟩),.int .i64 v,.int .i64 lo,.int .i64 hi] w (Zhi K o w mb m V v lo hi):=by
 obtain⟨s,h⟩:=h;obtain⟨c0,c1,c2,c3,c4,c5,f0⟩:=cells6 h.blk;have cx:=hx.cell;obtain⟨W,hW⟩:∃ W,W=w.setCell ⟨mb,5,none⟩ (.int .i64 (Zce m.calls)):=⟨_,rfl⟩;have hMW:Zbz (K m.d V) o W mb { m with calls:=Zce m.calls } s:=by rw[hW];exact h.field rfl rfl rfl rfl rfl h.waits rfl
 have hCW:Chg (fun _=>True) o o w W:=by rw[hW];exact(Chg.refl _ o w).setCell (p:=⟨mb,5,none⟩) h.own trivial _
 have hLW:Zai o W:=hlt.mono hCW.size;obtain⟨d0,d1,d2,d3,d4,d5,g0⟩:=cells6 hMW.blk;have hmb:mb<W.heap.size:=Zab d0;have hWA:=hMW.waits;have e0:({ m with calls:=Zce m.calls }:ManD).waits=ev::ws:=hw1;rw[e0] at hWA;obtain⟨g,off,cap,hvs,hog,hwc,hcm,k0,k1,k2,hrest⟩:=hWA.first
 rw[hvs] at d4;have hp:(0:Int)<((ws.length+1:Nat):Int):=by omega
 have HCW:=Hd hCW;have HLW:=Hd hLW;have HMW:=Hd hMW;have HOK:=Hd hk;have HRE:=Hd hrest;have HW1:=Hd hw1;have HD:=Hd hdue;have HW:Hid (w.setCell ⟨mb,5,none⟩ (.int .i64 (wrap64 (m.calls+1)))=W):=Hd hW.symm;clear h hlt hx hk hMW hCW hLW hW hrest hWA e0 hvs hog hw1
 go_enter Tryz.func71,Tryz.ntmps71
 go_upto_region 3 with fail;rw[HW.out];obtain⟨cu,hcu⟩:∃ cu,cu=wrap64 (m.calls+1):=⟨_,rfl⟩;have d5':W.cell? ⟨mb,5,none⟩=some (.int .i64 cu):=by rw[hcu];exact d5
 have hle:ev.after<=cu:=by rw[hcu];exact hdue
 rw[<- hcu];clear c0 c1 c2 c3 c4 c5 f0 cx d5 hcu hdue
 go_quiet (fail)
 obtain⟨W2,hW2⟩:∃ W2,W2=W.drewN nq:=⟨_,rfl⟩;have hb2:Below W.heap.size W W2:=by rw[hW2];exact Zah W nq
 rw[<- hW2];have HMW2:=Hd (HMW.out.below HLW.out hb2);have HLW2:=Hd (HLW.out.mono hb2.size);have HCW2:=Hd (HCW.out.trans (Chg.of_below hb2 _ _));have d4':W2.cell? ⟨mb,4,none⟩=_:=(hb2.cell (p:=⟨mb,4,none⟩) hmb).trans d4;have hgl:g<W.heap.size:=Zab k0;have l0:W2.cell? ⟨g,off,none⟩=_:=(hb2.cell (p:=⟨g,off,none⟩) hgl).trans k0;have l1:W2.cell? ⟨g,off+1,none⟩=_:=(hb2.cell (p:=⟨g,off+1,none⟩) hgl).trans k1;have l2:W2.cell? ⟨g,off+2,none⟩=_:=(hb2.cell (p:=⟨g,off+2,none⟩) hgl).trans k2;have HRE2:=Hd (HRE.out.keep (w':=W2) (o':=o) (fun q hq=>hb2.block q (HLW.out q _ hq)) (fun _ h=>h));clear hW2 k0 k1 k2 d0 d1 d2 d3 d4 d5' g0 hb2 HMW HLW HCW HRE HW;obtain⟨d0,d1,d2,d3,_,d5,g0⟩:=cells6 HMW2.out.blk;have hmb:mb<W2.heap.size:=Zab d0;have hgl:g<W2.heap.size:=Zab l0;go_upto_region 5 with fail;obtain⟨bx,hbx⟩:∃ bx,bx=W2.heap.size:=⟨_,rfl⟩;obtain⟨W3,hW3⟩:∃ W3,W3=W2.alloc (.cells #[.int .i64 ev.after,.int .i64 ev.kind,.int .i64 ev.level] 73):=⟨_,rfl⟩;have hb3:Below W2.heap.size W2 W3:=by rw[hW3];exact Zaf W2 _
 have hbo:o bx=none:=by rw[hbx];exact HLW2.out.none (Nat.le_refl _)
 have x3:W3.heap[bx]?=some (.cells #[.int .i64 ev.after,.int .i64 ev.kind,.int .i64 ev.level] 73 (0,0)):=by rw[hW3,hbx];exact heap_alloc_new W2 _
 rw[<- hW3,<- hbx];have HMW3:=Hd (HMW2.out.below HLW2.out hb3);have HLW3:=Hd (HLW2.out.mono hb3.size);have HCW3:=Hd (HCW2.out.trans (Chg.of_below hb3 _ _));have d4:W3.cell? ⟨mb,4,none⟩=_:=(hb3.cell (p:=⟨mb,4,none⟩) hmb).trans d4';have HRE3:=Hd (HRE2.out.keep (w':=W3) (o':=o) (fun q hq=>hb3.block q (HLW2.out q _ hq)) (fun _ h=>h));clear hW3 hbx l0 l1 l2 d0 d1 d2 d3 d4' d5 g0 hb3 HMW2 HLW2 HCW2 HRE2;obtain⟨d0,d1,d2,d3,_,d5,g0⟩:=cells6 HMW3.out.blk;have hne:bx≠mb:=by rintro rfl;rw[HMW3.out.own] at hbo;cases hbo
 obtain⟨W4,hW4⟩:∃ W4,W4=(W3.setCell ⟨mb,4,none⟩ (.slice (if cap=1 then some ⟨g,off,none⟩ else some ⟨g,off+3,none⟩) ws.length (cap-1))).setCell ⟨mb,5,none⟩ (.int .i64 0):=⟨_,rfl⟩;have hM4:Zbz (K m.d V) o W4 mb { m with calls:=0,waits:=ws } { s with vw:=.slice (if cap=1 then some ⟨g,off,none⟩ else some ⟨g,off+3,none⟩) ws.length (cap-1) }:=by
  have a1:=HMW3.out.field (k:=4) (u:=.slice (if cap=1 then some ⟨g,off,none⟩ else some ⟨g,off+3,none⟩) ws.length (cap-1)) (m':={ m with calls:=Zce m.calls,waits:=ws }) (s':={ s with vw:=.slice (if cap=1 then some ⟨g,off,none⟩ else some ⟨g,off+3,none⟩) ws.length (cap-1) }) rfl rfl rfl rfl rfl HRE3.out rfl;have a2:=a1.field (k:=5) (u:=.int .i64 0) (m':={ m with calls:=0,waits:=ws }) (s':={ s with vw:=.slice (if cap=1 then some ⟨g,off,none⟩ else some ⟨g,off+3,none⟩) ws.length (cap-1) }) rfl rfl rfl rfl rfl a1.waits rfl;rw[hW4];exact a2
 have hC4:Chg (fun _=>True) o o w W4:=by rw[hW4];exact(HCW3.out.setCell (p:=⟨mb,4,none⟩) HMW3.out.own trivial _).setCell (p:=⟨mb,5,none⟩) HMW3.out.own trivial _
 have hx4:W4.heap[bx]?=some (.cells #[.int .i64 ev.after,.int .i64 ev.kind,.int .i64 ev.level] 73 (0,0)):=by rw[hW4];exact(Zad hne _).trans ((Zad hne _).trans x3)
 have hst:Step K o w mb m V o W4 { m with calls:=0,waits:=ws } V:=⟨⟨_,hM4⟩,HLW3.out.mono (by rw[hW4];simp[World.setCell]),hC4,HOK.out,Ext.refl _ _,rfl,rfl⟩;have HST:=Hd hst;have y0:W4.cell? ⟨bx,0,none⟩=some (.int .i64 ev.after):=by rw[cell_of_row W4 bx 0 _ _ _ hx4];rfl
 have y1:W4.cell? ⟨bx,1,none⟩=some (.int .i64 ev.kind):=by rw[cell_of_row W4 bx 1 _ _ _ hx4];rfl
 have y2:W4.cell? ⟨bx,2,none⟩=some (.int .i64 ev.level):=by rw[cell_of_row W4 bx 2 _ _ _ hx4];rfl
 have HW4:=Hd hW4;clear hM4 hC4 hx4 hst hW4;go_upto_region 6 with fail;rw[<- HW4.out];clear HW4 d0 d1 d2 d3 d4 d5 g0 x3 HMW3 HLW3 HCW3 HRE3;go_wp2_with fail
 all_goals exact⟨rfl,o,_,V,HST.out,.inl ⟨ev,HW1.out,HD.out,rfl,rfl,rfl,rfl⟩⟩
theorem Zkc {K:Law} {o:Own} {w:World} {xb mb:Nat} {m:ManD} {V:Nat->BF} (hK:Zc8 K) (h:Zd0 (K m.d V) o w mb m) (hlt:Zai o w) (hx:Zer o w xb mb) (hk:Zaj m.d V) (v:Int) (lo hi:Nat) (hlo:okE (Zaa m.d) lo) (hhi:okE (Zaa m.d) hi) :
 Calls Tryz.prog 71 #[.pointer (some ⟨xb,0,none⟩),.int .i64 v,.int .i64 lo,.int .i64 hi] w (Zhi K o w mb m V v lo hi):=by
 by_cases hd:∀ ev ws,m.waits=ev::ws->Zce m.calls<ev.after
 ·
  exact Zy3 hK h hlt hx hk v lo hi hlo hhi hd
 ·
  cases hw:m.waits with
  | nil=>exact absurd (fun ev ws e=>by rw[hw] at e;cases e) hd
  | cons ev ws=>exact Zv7 h hlt hx hk v lo hi hw (Int.not_lt.1 fun hl=>hd fun ev' ws' e=>by rw[hw] at e;cases e;exact hl)
end Go.Proofs.YtlgogjbkadckkaaGreat

namespace Go.Proofs.YtlgogjbkadckkaaGreat
section
variable {d d':Zac} {V V':Nat->BF}
theorem Zkr (hk:Zaj d V) {e:Nat} (h:e/2=0):lvE d.vars.length (levN d) (Zaa d) e=d.vars.length:=by unfold lvE;rw[h,hk.dag.none0]
theorem Zgq {e f:Nat} (h:e/2=f/2):lvE d.vars.length (levN d) (Zaa d) e=lvE d.vars.length (levN d) (Zaa d) f:=by unfold lvE;rw[h]
theorem Zil {N:Nat->Option BN} {e f:Nat} (h:e/2=f/2) (hf:okE N f):okE N e:=by unfold okE;rw[h];exact hf
theorem Zbv (hk:Zaj d V) {f v:Nat} (hf:okE (Zaa d) f) (hv:v<d.vars.length) (hl:levN d v<=lvE d.vars.length (levN d) (Zaa d) f) :
 okE (Zaa d) (cofs d f v).1/\okE (Zaa d) (cofs d f v).2/\levN d v<lvE d.vars.length (levN d) (Zaa d) (cofs d f v).1/\levN d v<lvE d.vars.length (levN d) (Zaa d) (cofs d f v).2 /\
  ∀ ρ,ef V f ρ=if ρ v then ef V (cofs d f v).2 ρ else ef V (cofs d f v).1 ρ:=by
 unfold cofs;cases hb:Zaa d (f/2) with
 | none =>
   have hl':levN d v<lvE d.vars.length (levN d) (Zaa d) f:=by unfold lvE;rw[hb];exact hk.dag.lt v hv
   exact⟨hf,hf,hl',hl',fun ρ=>by simp⟩
 | some b =>
   by_cases e:(b.v:Int)=v
   ·
    have e':b.v=v:=by omega
    simp only[if_pos e];refine⟨Zdx (hk.dag.okLo _ _ hb),Zdx (hk.dag.okHi _ _ hb),?_,?_,fun ρ=>?_⟩
    ·
     rw[Zdw,<- e'];exact hk.dag.lvLo _ _ hb
    ·
     rw[Zdw,<- e'];exact hk.dag.lvHi _ _ hb
    ·
     rw[Zcy,Zcy];have h1:=hk.dag.eqn _ _ hb;unfold eneg;have h2:ef V f ρ=((f%2 == 1) != V (f/2) ρ):=rfl;rw[h2,h1];simp only[iteF,e'];split<;>rfl
   ·
    simp only[if_neg e];have hl':levN d v<lvE d.vars.length (levN d) (Zaa d) f:=by
     rcases Nat.lt_or_eq_of_le hl with h|h
     ·
      exact h
     ·
      exfalso;unfold lvE at h;rw[hb] at h;have:=hk.dag.inj _ _ hv (hk.dag.var _ _ hb) h;exact e (by omega)
    exact⟨hf,hf,hl',hl',fun ρ=>by simp⟩
theorem Zxc (hk:Zaj d V) (f g h:Nat):minL d f g h<=d.vars.length:=by unfold minL;have:=hk.dag.lvE_le f;omega
theorem Zkm {k f g h:Nat} (h1:k<=lvE d.vars.length (levN d) (Zaa d) f) (h2:k<=lvE d.vars.length (levN d) (Zaa d) g) (h3:k<=lvE d.vars.length (levN d) (Zaa d) h):k<=minL d f g h:=by unfold minL;omega
theorem Zdq.ok (hk:Zaj d V) {e f g h:Nat} (hi:Zdq e f g h) (hf:okE (Zaa d) f) (hg:okE (Zaa d) g) (hh:okE (Zaa d) h) :
 okE (Zaa d) e/\minL d f g h<=lvE d.vars.length (levN d) (Zaa d) e:=by
 rcases hi with e0|e0|e0|e0
 ·
  exact⟨.inl e0,by rw[Zkr hk e0];exact Zxc hk f g h⟩
 ·
  exact⟨Zil e0 hf,by rw[Zgq e0];unfold minL;omega⟩
 ·
  exact⟨Zil e0 hg,by rw[Zgq e0];unfold minL;omega⟩
 ·
  exact⟨Zil e0 hh,by rw[Zgq e0];unfold minL;omega⟩
structure IteS (d:Zac) (V:Nat->BF) (f0 g0 h0:Nat) (f g h:Nat) (nt:Bool):Prop where
 okF:okE (Zaa d) f
 okG:okE (Zaa d) g
 okH:okE (Zaa d) h
 lev:minL d f0 g0 h0<=minL d f g h
 val:∀ ρ,iteB (ef V f0 ρ) (ef V g0 ρ) (ef V h0 ρ)=(nt != iteB (ef V f ρ) (ef V g ρ) (ef V h ρ))
theorem IteS.start {f g h:Nat} (hf:okE (Zaa d) f) (hg:okE (Zaa d) g) (hh:okE (Zaa d) h):IteS d V f g h f g h false:=⟨hf,hg,hh,Nat.le_refl _,fun ρ=>by simp⟩
theorem IteS.next {f0 g0 h0 f g h:Nat} {nt:Bool} (hk:Zaj d V) (s:IteS d V f0 g0 h0 f g h nt) (hd:(iteR f g h).dn=false) :
 IteS d V f0 g0 h0 (iteR f g h).a (iteR f g h).b (iteR f g h).c (nt != (iteR f g h).n)/\(iteR f g h).a/2≠0:=by
 obtain⟨ha,hb,hc,hn,hv⟩:=Zpl hd;obtain⟨a1,a2⟩:=ha.ok hk s.okF s.okG s.okH;obtain⟨b1,b2⟩:=hb.ok hk s.okF s.okG s.okH;obtain⟨c1,c2⟩:=hc.ok hk s.okF s.okG s.okH;refine⟨⟨a1,b1,c1,Nat.le_trans s.lev (Zkm a2 b2 c2),fun ρ=>?_⟩,hn⟩;rw[s.val,hv hk.dag.one];cases nt<;>cases (iteR f g h).n<;>simp
theorem IteS.answer {f0 g0 h0 f g h r:Nat} {nt:Bool} (s:IteS d V f0 g0 h0 f g h nt) (h1:okE (Zaa d) f0) (h2:okE (Zaa d) g0) (h3:okE (Zaa d) h0) (hr:okE (Zaa d) r) (hl:minL d f g h<=lvE d.vars.length (levN d) (Zaa d) r)
 (hv:∀ ρ,ef V r ρ=iteB (ef V f ρ) (ef V g ρ) (ef V h ρ)):IteP d V f0 g0 h0 (eflip r nt) :=
 ⟨h1,h2,h3,Zdx hr,fun ρ=>by rw[Zcy,hv,<- s.val];rfl,by rw[Zdw];exact Nat.le_trans s.lev hl⟩
theorem IteS.done {f0 g0 h0 f g h:Nat} {nt:Bool} (hk:Zaj d V) (s:IteS d V f0 g0 h0 f g h nt) (h1:okE (Zaa d) f0) (h2:okE (Zaa d) g0) (h3:okE (Zaa d) h0) (hd:(iteR f g h).dn=true):IteP d V f0 g0 h0 (eflip (iteR f g h).r nt):=by
 obtain⟨hh,hv⟩:=Zkj hd;obtain⟨q1,q2⟩:=hh.ok hk s.okF s.okG s.okH;exact s.answer h1 h2 h3 q1 q2 (hv hk.dag.one)
theorem Ext.minL (x:Ext d V d' V') (hk:Zaj d V) (hk':Zaj d' V') {f g h:Nat} (hf:okE (Zaa d) f) (hg:okE (Zaa d) g) (hh:okE (Zaa d) h):minL d' f g h=Go.Proofs.YtlgogjbkadckkaaGreat.minL d f g h:=by
 unfold Go.Proofs.YtlgogjbkadckkaaGreat.minL;rw[x.vars,x.lvE hf hk.dag.none0 hk'.dag.none0,x.lvE hg hk.dag.none0 hk'.dag.none0,x.lvE hh hk.dag.none0 hk'.dag.none0]
theorem IteS.ext {f0 g0 h0 f g h:Nat} {nt:Bool} (s:IteS d V f0 g0 h0 f g h nt) (x:Ext d V d' V') (hk:Zaj d V) (hk':Zaj d' V') (h1:okE (Zaa d) f0) (h2:okE (Zaa d) g0) (h3:okE (Zaa d) h0):IteS d' V' f0 g0 h0 f g h nt :=
 ⟨x.ok s.okF,x.ok s.okG,x.ok s.okH,by rw[x.minL hk hk' h1 h2 h3,x.minL hk hk' s.okF s.okG s.okH];exact s.lev,fun ρ=>by rw[x.ef s.okF,x.ef s.okG,x.ef s.okH,x.ef h1,x.ef h2,x.ef h3];exact s.val ρ⟩
theorem IteP.ext {f g h r:Nat} (s:IteP d V f g h r) (x:Ext d V d' V') (hk:Zaj d V) (hk':Zaj d' V'):IteP d' V' f g h r :=
 ⟨x.ok s.okA,x.ok s.okB,x.ok s.okC,x.ok s.okR,fun ρ=>by rw[x.ef s.okA,x.ef s.okB,x.ef s.okC,x.ef s.okR];exact s.val ρ,
  by rw[x.minL hk hk' s.okA s.okB s.okC,x.vars,x.lvE s.okR hk.dag.none0 hk'.dag.none0];exact s.lev⟩
theorem Zsj (hk:Zaj d V) {f g h v lo hi r:Nat} (hf:okE (Zaa d) f) (hg:okE (Zaa d) g) (hh:okE (Zaa d) h) (hv:v<d.vars.length) (hl:levN d v<=minL d f g h)
 (c1:∀ ρ,ef V lo ρ=iteB (ef V (cofs d f v).1 ρ) (ef V (cofs d g v).1 ρ) (ef V (cofs d h v).1 ρ)) (c2:∀ ρ,ef V hi ρ=iteB (ef V (cofs d f v).2 ρ) (ef V (cofs d g v).2 ρ) (ef V (cofs d h v).2 ρ))
 (hr:ef V r=iteF v (ef V hi) (ef V lo)) (ρ:Nat->Bool):ef V r ρ=iteB (ef V f ρ) (ef V g ρ) (ef V h ρ):=by
 have lf:=(Zbv hk hf hv (by unfold minL at hl;omega)).2.2.2.2 ρ;have lg:=(Zbv hk hg hv (by unfold minL at hl;omega)).2.2.2.2 ρ;have lh:=(Zbv hk hh hv (by unfold minL at hl;omega)).2.2.2.2 ρ;rw[hr,lf,lg,lh];simp only[iteF];cases ρ v
 ·
  simpa using c1 ρ
 ·
  simpa using c2 ρ
theorem Zcx (x:Ext d V d' V') (h0:Zaa d 0=none) (h0':Zaa d' 0=none) {f:Nat} (hf:okE (Zaa d) f) (v:Int):cofs d' f v=cofs d f v:=by
 unfold cofs;rcases hf with h|⟨b,hb⟩
 ·
  rw[h,h0,h0']
 ·
  rw[hb,x.nodes _ _ hb]
end
open Go.RowKit
def Zmv (K:Law) (k:Nat) (o:Own) (w:World) (mb:Nat) (m:ManD) (V:Nat->BF) (f g h:Nat) (e:Ending) (w':World):Prop :=
 ∃ o' m' V',Step K o w mb m V o' w' m' V' /\
  ((∃ r:Nat,e=.returned (.int .i64 r)/\IteP m'.d V' f g h r/\m'.waits=m.waits/\m'.d.pool.many+1<=m.d.pool.many+2^k) \/
   (e=Zb8 7 false ev0/\m'.waits=m.waits/\m'.d.pool.many=m'.d.pool.room/\m'.d.pool.many+2<=m.d.pool.many+2^k) \/
   (∃ ev,e=Zb8 0 true ev/\m.waits=ev::m'.waits))
def Ybd (K:Law) (k:Nat):Prop:=∀ (o:Own) (w:World) (xb mb:Nat) (m:ManD) (V:Nat->BF) (f g h:Nat),Zd0 (K m.d V) o w mb m->Zai o w->Zer o w xb mb->Zaj m.d V ->
 okE (Zaa m.d) f->okE (Zaa m.d) g->okE (Zaa m.d) h->m.d.vars.length<=minL m.d f g h+k ->
 Calls Tryz.prog 55 #[.pointer (some ⟨xb,0,none⟩),.int .i64 f,.int .i64 g,.int .i64 h] w (Zmv K k o w mb m V f g h)
theorem Zu0 {K:Law} {o:Own} {w w':World} {mb:Nat} {m:ManD} {V:Nat->BF} (hm:Zd0 (K m.d V) o w mb m) (hl:Zai o w) (hk:Zaj m.d V) (hb:Below w.heap.size w w'):Step K o w mb m V o w' m V:=by
 obtain⟨s,h⟩:=hm;exact⟨⟨s,h.below hl hb⟩,hl.mono hb.size,Chg.of_below hb _ _,hk,Ext.refl _ _,rfl,rfl⟩
theorem Step.below {K:Law} {o o':Own} {w w' w'':World} {mb:Nat} {m m':ManD} {V V':Nat->BF} (h:Step K o w mb m V o' w' m' V') (hb:Below w'.heap.size w' w''):Step K o w mb m V o' w'' m' V':=h.trans (Zu0 h.is h.lt h.ok hb)
theorem top3 {d:Zac} {V:Nat->BF} (hk:Zaj d V) {f g h:Nat} (hf:okE (Zaa d) f) (hn:f/2≠0) {top least:Int} (ht:TopS d [f,g,h] top least) :
 ∃ v:Nat,top=v/\v<d.vars.length/\levN d v=minL d f g h/\levN d v<d.vars.length:=by
 rcases ht with ⟨_,_,h3⟩|⟨v,h1,_,h3,⟨e,he,b,hb,hbv⟩,h5⟩
 ·
  exfalso;rcases hf with h0|⟨b,hb⟩
  ·
   exact hn h0
  ·
   rw[h3 f (by simp)] at hb;cases hb
 ·
  refine⟨v,h1,h3,?_,hk.dag.lt v h3⟩;have e0:lvE d.vars.length (levN d) (Zaa d) e=levN d v:=by unfold lvE;rw[hb,<- hbv]
  have a1:=h5 f (by simp);have a2:=h5 g (by simp);have a3:=h5 h (by simp);simp only[List.mem_cons,List.not_mem_nil,or_false] at he;unfold minL;rcases he with rfl|rfl|rfl<;>omega
theorem Zkb {K:Law} (hK:Zc8 K) (k:Nat) (IH:∀ k',k=k'+1->Ybd K k'):Ybd K k:=by
 intro o w xb mb m V f g h hm hlt hx hk hf hg hh hfuel;obtain⟨st0,hst0⟩:∃ s,Zal o w (Classical.choose hm).sb m.d s:=(Classical.choose_spec hm).store;have HLT:Hid (∀ e,okE (Zaa m.d) e->e<eMax):=Hd fun e he=>by have:=hst0.edge_lt he;unfold eMax;omega
 have HK':=Hd hK;have HM:=Hd hm;have HOL:=Hd hlt;have HX:=Hd hx;have HK:=Hd hk;have HF:=Hd hf;have HG:=Hd hg;have HH:=Hd hh;have HFU:=Hd hfuel;have HST:Hid (IteS m.d V f g h f g h false):=Hd (IteS.start hf hg hh);clear hst0 hm hlt hx hk hf hg hh hfuel
 go_enter Tryz.func55,Tryz.ntmps55
 go_upto_block 0 with fail
 go_cut [1,2,3,9] from 27 (fun s1 s2 s3 s9 wx=>∃ (f' g' h':Nat) (nt:Bool),s1=.int .i64 f'/\s2=.int .i64 g'/\s3=.int .i64 h'/\s9=.bool nt/\IteS m.d V f g h f' g' h' nt/\f'/2≠0/\wx=w)
 case first =>
  go_wp2_with fail
  go_loopw [1,2,3,9,27] (fun s1 s2 s3 s9 i wr=>∃ (f' g' h':Nat) (nt:Bool) (j:Nat),s1=.int .i64 f'/\s2=.int .i64 g'/\s3=.int .i64 h'/\s9=.bool nt/\i=.int .i64 j/\j<=3/\IteS m.d V f g h f' g' h' nt/\(0<j->f'/2≠0)/\wr=w) (fun _ _ _ _ i _=>3-(intOf i).toNat)
  case atStart=>exact⟨f,g,h,false,0,rfl,rfl,rfl,rfl,rfl,by omega,HST.out,by omega,rfl⟩
  case round =>
   obtain⟨f',g',h',nt,j,rfl,rfl,rfl,rfl,rfl,hj,hS,hn,rfl⟩:=hrel;clear HST
   by_cases hlt:j<3
   ·
    have HI:=Hd (fun W:World=>Zwv f' g' h' W (HLT.out _ hS.okF) (HLT.out _ hS.okG) (HLT.out _ hS.okH));have hlr:(iteR f' g' h').dn=true->(iteR f' g' h').r<eMax:=fun e=>HLT.out _ (((Zkj e).1.ok HK.out hS.okF hS.okG hS.okH).1)
    have hNX:=fun e=>hS.next HK.out (f:=f') (g:=g') (h:=h') e
    have hDN:=fun e=>hS.done HK.out HF.out HG.out HH.out e
    have hlt':(j:Int)<3:=by omega
    unfold iteV at HI;obtain⟨R,hR⟩:∃ R,R=iteR f' g' h':=⟨_,rfl⟩;rw[<- hR] at HI hlr hNX hDN;clear hR hS hn;obtain⟨a,b,c,n,r,dn⟩:=R;dsimp only at HI hlr hNX hDN;cases dn with
    | true =>
      have HFL:=Hd (fun W:World=>Zb1 r nt W (hlr rfl));have HDN:=Hd (hDN rfl);clear hlr hNX hDN;go_wp2_with fail;refine(HI.out _).mono ?_;rintro x w' ⟨rfl,rfl⟩;go_wp2_with fail;refine(HFL.out _).mono ?_;rintro x w' ⟨rfl,rfl⟩;go_wp2_with fail;go_ret;exact⟨o,m,V,⟨HM.out,HOL.out,Chg.refl _ _ _,HK.out,Ext.refl _ _,rfl,rfl⟩,.inl ⟨_,rfl,HDN.out,rfl,by have:=Nat.one_le_two_pow (n:=k);omega⟩⟩
    | false =>
      have hbn:(nt != n)=(!nt == n):=by cases nt<;>cases n<;>rfl
      have HNX:=Hd (hNX rfl);rw[hbn] at HNX;clear hlr hNX hDN hbn
      by_cases hp1:a=f'
      ·
       subst hp1
       by_cases hp2:b=g'
       ·
        subst hp2
        by_cases hp3:c=h'
        ·
         subst hp3;go_wp2_with fail;refine(HI.out _).mono ?_;rintro x w' ⟨rfl,rfl⟩;go_wp2_with fail;go_meet;exact⟨_,_,_,_,rfl,rfl,rfl,rfl,HNX.out.1,HNX.out.2,by trivial⟩
        ·
         have H3:(c == h')=false:=by simp[hp3]
         go_wp2_with fail;refine(HI.out _).mono ?_;rintro x w' ⟨rfl,rfl⟩;go_wp2_with fail;go_roundw
         case rel=>exact⟨_,_,_,_,j+1,rfl,rfl,rfl,rfl,by simp,by omega,HNX.out.1,fun _=>HNX.out.2,by trivial⟩
         case measure=>simp[intOf];omega
       ·
        have H2:(b == g')=false:=by simp[hp2]
        go_wp2_with fail;refine(HI.out _).mono ?_;rintro x w' ⟨rfl,rfl⟩;go_wp2_with fail;go_roundw
        case rel=>exact⟨_,_,_,_,j+1,rfl,rfl,rfl,rfl,by simp,by omega,HNX.out.1,fun _=>HNX.out.2,by trivial⟩
        case measure=>simp[intOf];omega
      ·
       have H1:(a == f')=false:=by simp[hp1]
       go_wp2_with fail;refine(HI.out _).mono ?_;rintro x w' ⟨rfl,rfl⟩;go_wp2_with fail;go_roundw
       case rel=>exact⟨_,_,_,_,j+1,rfl,rfl,rfl,rfl,by simp,by omega,HNX.out.1,fun _=>HNX.out.2,by trivial⟩
       case measure=>simp[intOf];omega
   ·
    obtain rfl:j=3:=by omega
    have HS:=Hd hS;have HN:=Hd (hn (by omega));clear hS hn;go_wp2_with fail;go_meet;exact⟨f',g',h',nt,rfl,rfl,rfl,rfl,HS.out,HN.out,rfl⟩
 case rest =>
  obtain⟨f',g',h',nt,rfl,rfl,rfl,rfl,hS,hn,rfl⟩:=hcut
  rename World=>w
  clear HST;obtain⟨s,hms⟩:=HM.out;obtain⟨c0,c1,c2,c3,c4,c5,f0⟩:=cells6 hms.blk;have cx:=HX.out.cell;have HGET:=Hd (Zwl o s.me (K m.d V) 1 f' g' h' w hms.memo HOL.out);have HMS:=Hd hms;have HS:=Hd hS;have HN:=Hd hn;clear hms hS hn;go_wp2_with fail;refine HGET.out.mono ?_;rintro x w1 ⟨hgs,hme,hc1,hl1⟩;have hM1:Zbz (K m.d V) o w1 mb m s:=HMS.out.setMemo HOL.out hme (hc1.mono fun r e=>.inl e);have hX1:=HX.out.chg hc1;have HC1:=Hd hc1.any;have HM1:=Hd hM1;have HX1:=Hd hX1;have HL1:=Hd hl1;have hst1:Step K o w mb m V o w1 m V:=⟨⟨s,hM1⟩,hl1,hc1.any,HK.out,Ext.refl _ _,rfl,rfl⟩;have HST1:=Hd hst1;clear hme hc1 hl1 hM1 hX1 hst1;rcases hgs with rfl|⟨r,rfl,hkr⟩
  ·
   clear c0 c1 c2 c3 c4 c5 f0 cx;go_upto_region 14 with fail;obtain⟨w2,hw2⟩:∃ w2,w2=w1.alloc (.cells #[.int .i64 f',.int .i64 g',.int .i64 h'] 83):=⟨_,rfl⟩;have hb2:Below w1.heap.size w1 w2:=by rw[hw2];exact Zaf w1 _
   have hz:w2.heap[w1.heap.size]?=some (.cells #[.int .i64 f',.int .i64 g',.int .i64 h'] 83 (0,0)):=by rw[hw2];exact heap_alloc_new w1 _
   have hints:Zay w2 (some ⟨w1.heap.size,0,none⟩) ([f',g',h'].map Int.ofNat):=⟨by simp,fun j hj=>⟨w1.heap.size,0,rfl,by
    rw[cell_of_row w2 w1.heap.size (0+j) _ _ _ hz];simp at hj
    match j,hj with
    | 0,_=>rfl
    | 1,_=>rfl
    | 2,_=>rfl⟩⟩
   have hst2:=HST1.out.below hb2;have hX2:=HX.out.chg hst2.chg;have HTOP:Hid (Calls Tryz.prog 87 #[.pointer (some ⟨xb,0,none⟩),.slice (some ⟨w1.heap.size,0,none⟩) 3 3] w2 fun x w'=>∃ top least,x=.returned (.int .i64 top)/\TopS m.d [f',g',h'] top least/\Below w2.heap.size w2 w') :=
    Hd (Zgk hst2.is hst2.lt hX2 HK.out [f',g',h'] (by simp;exact⟨HS.out.okF,HS.out.okG,HS.out.okH⟩) (some ⟨w1.heap.size,0,none⟩) 3 hints)
   have HST2:=Hd hst2;have HW2:=Hd hw2;clear hb2 hz hints hst2 hX2 hw2;go_wp2_with fail;rw[<- HW2.out];refine HTOP.out.mono ?_;rintro x w3 ⟨top,least,rfl,htop,hb3⟩;obtain⟨v,rfl,hv,hlv,hvn⟩:=top3 HK.out HS.out.okF HN.out htop;have HST3:=Hd (HST2.out.below hb3);have HV:=Hd hv;have HLV:=Hd hlv;obtain⟨k',hk'⟩:∃ k',k=k'+1:=⟨k-1,by have h1:=HFU.out;have h2:=HS.out.lev;omega⟩;have HIH:=Hd (IH k' hk');have cf:=Zbv HK.out HS.out.okF hv (by rw[hlv];unfold minL;omega);have cg:=Zbv HK.out HS.out.okG hv (by rw[hlv];unfold minL;omega);have ch:=Zbv HK.out HS.out.okH hv (by rw[hlv];unfold minL;omega);have hl1:levN m.d v+1<=minL m.d (cofs m.d f' v).1 (cofs m.d g' v).1 (cofs m.d h' v).1:=Zkm cf.2.2.1 cg.2.2.1 ch.2.2.1;have hl2:levN m.d v+1<=minL m.d (cofs m.d f' v).2 (cofs m.d g' v).2 (cofs m.d h' v).2:=Zkm cf.2.2.2.1 cg.2.2.2.1 ch.2.2.2.1;have hfu:m.d.vars.length<=levN m.d v+1+k':=by have h1:=HFU.out;have h2:=HS.out.lev;omega
   have HCF:=Hd cf;have HCG:=Hd cg;have HCH:=Hd ch;have HL1':=Hd hl1;have HL2':=Hd hl2;have HFU':=Hd hfu;have HKK:=Hd hk';have HSP:Hid (∀ (W:World) (e:Nat),okE (Zaa m.d) e->Step K o w mb m V o W m V->Calls Tryz.prog 88 #[.pointer (some ⟨xb,0,none⟩),.int .i64 e,.int .i64 v] W fun x w'=>x=.returned (.tuple #[.int .i64 (cofs m.d e v).1,.int .i64 (cofs m.d e v).2])/\Step K o w mb m V o w' m V) :=
    Hd fun W e he st=>(Zek st.is st.lt (HX.out.chg st.chg) HK.out e he v).mono fun x w' ⟨h1,h2⟩=>⟨h1,st.below h2⟩
   clear htop hb3 hv hlv hvn cf cg ch hl1 hl2 hfu hk' HTOP HW2 HST2;go_wp2_with fail;refine(HSP.out _ _ HS.out.okF HST3.out).mono ?_;rintro x w4 ⟨rfl,hst4⟩;have HST4:=Hd hst4;clear hst4;go_wp2_with fail;refine(HSP.out _ _ HS.out.okG HST4.out).mono ?_;rintro x w5 ⟨rfl,hst5⟩;have HST5:=Hd hst5;clear hst5;go_wp2_with fail;refine(HSP.out _ _ HS.out.okH HST5.out).mono ?_;rintro x w6 ⟨rfl,hst6⟩;have HST6:=Hd hst6;clear hst6;go_wp2_with fail;refine(HIH.out o w6 xb mb m V _ _ _ HST6.out.is HST6.out.lt (HX.out.chg HST6.out.chg) HK.out HCF.out.1 HCG.out.1 HCH.out.1 (by have h1:=HFU'.out;have h2:=HL1'.out;omega)).mono ?_;have HPW:Hid (2^k=2^k'+2^k'):=by show _=_;rw[HKK.out,Nat.pow_succ];omega
   have HP1:Hid (1<=2^k'):=Hd Nat.one_le_two_pow;rintro x w7 ⟨o7,m7,V7,st7,(⟨lo,rfl,hlo,hwt7,hmn7⟩|⟨rfl,hwt7,hrm7,hmn7⟩|⟨ev,rfl,hwt7⟩)⟩
   ·
    have HST7:=Hd (HST6.out.trans st7);have HK7:=Hd st7.ok;have HX7:=Hd st7.ext;have HLO:=Hd hlo;have HWT7:=Hd hwt7;have HMN7:=Hd hmn7;have hh7:m7.d.vars.length<=minL m7.d (cofs m.d f' v).2 (cofs m.d g' v).2 (cofs m.d h' v).2+k':=by
     rw[st7.ext.minL HK.out st7.ok HCF.out.2.1 HCG.out.2.1 HCH.out.2.1,st7.ext.vars];have h1:=HFU'.out;have h2:=HL2'.out;omega
    have HH7:=Hd hh7;clear st7 hlo hwt7 hmn7 hh7;go_wp2_with fail;refine(HIH.out o7 w7 xb mb m7 V7 _ _ _ HST7.out.is HST7.out.lt (HX.out.chg HST7.out.chg) HK7.out (HX7.out.ok HCF.out.2.1) (HX7.out.ok HCG.out.2.1) (HX7.out.ok HCH.out.2.1) HH7.out).mono ?_;rintro x w8 ⟨o8,m8,V8,st8,(⟨hi,rfl,hhi,hwt8,hmn8⟩|⟨rfl,hwt8,hrm8,hmn8⟩|⟨ev,rfl,hwt8⟩)⟩
    ·
     have HST8:=Hd (HST7.out.trans st8);have HK8:=Hd st8.ok;have HX8:=Hd st8.ext;have HHI:=Hd hhi;have HWT8:=Hd hwt8;have HMN8:=Hd hmn8;have hMk:=Zkc HK'.out HST8.out.is HST8.out.lt (HX.out.chg HST8.out.chg) st8.ok v lo hi (st8.ext.ok HLO.out.okR) hhi.okR;have HMK:=Hd hMk;clear st8 hhi hwt8 hmn8 hMk;go_wp2_with fail;refine HMK.out.mono ?_;have hlo8:levN m8.d v<lvE m8.d.vars.length (levN m8.d) (Zaa m8.d) lo:=by
      have e1:=HX8.out.lvE (n:=m8.d.vars.length) HLO.out.okR HK7.out.dag.none0 HK8.out.dag.none0;have e2:=HLO.out.lev;have e3:=HX7.out.minL HK.out HK7.out HCF.out.1 HCG.out.1 HCH.out.1;have e4:=HL1'.out;have e5:=HX7.out.lev;have e6:=HX8.out.lev;have e7:=HX8.out.vars;rw[e1,e6,e5,e7];rw[e5] at e2;omega
     have hhi8:levN m8.d v<lvE m8.d.vars.length (levN m8.d) (Zaa m8.d) hi:=by
      have e2:=HHI.out.lev;have x78:=HX7.out.trans HX8.out;have e3:=x78.minL HK.out HK8.out HCF.out.2.1 HCG.out.2.1 HCH.out.2.1;have e4:=HL2'.out;have e5:=x78.lev;rw[e5] at e2 ⊢;omega
     have hv8:v<m8.d.vars.length:=by rw[(HX7.out.trans HX8.out).vars];exact HV.out
     have hbad:∀ er,Zmx m8.d v lo hi er->er=7/\m8.d.pool.many=m8.d.pool.room:=by
      rintro er (⟨_,h1⟩|⟨_,_,_,h1⟩|h1)
      ·
       exact absurd ⟨by omega,by omega⟩ h1
      ·
       simp only[Int.toNat_natCast] at h1;omega
      ·
       exact h1
     have HLO8:=Hd hlo8;have HHI8:=Hd hhi8;have HV8:=Hd hv8;have HBAD:=Hd hbad;clear hlo8 hhi8 hv8 hbad;rintro x w9 ⟨o9,m9,V9,st9,(⟨ev,hw9,_,_,hd9,hV9,rfl⟩|⟨hwt9,_,_,(⟨er,her,hd9,hV9,rfl⟩|⟨_,_,r,rfl,hr9,hrv,hrl,hmn9⟩)⟩)⟩
     ·
      have HST9:=Hd (HST8.out.trans st9);have HW9:=Hd hw9;clear st9 hw9 hd9 hV9;unfold Zb8;go_wp2_with fail;exact⟨rfl,o9,m9,V9,HST9.out,.inr (.inr ⟨ev,rfl,by rw[<- HWT7.out,<- HWT8.out];exact HW9.out⟩)⟩
     ·
      have HST9:=Hd (HST8.out.trans st9);obtain⟨rfl,hfull⟩:=HBAD.out er her;have HFULL:=Hd hfull;have HD9:=Hd hd9;have HWT9:=Hd hwt9;clear st9 her hd9 hV9 hwt9 hfull;unfold Zb8;go_wp2_with fail;exact⟨rfl,o9,m9,V9,HST9.out,.inr (.inl ⟨rfl,by rw[HWT9.out,HWT8.out,HWT7.out],by rw[HD9.out];exact HFULL.out,by rw[HD9.out];have a1:=HMN7.out;have a2:=HMN8.out;have a3:=HPW.out;have a4:=HP1.out;omega⟩)⟩
     ·
      have hst9:=HST8.out.trans st9;have x09:=hst9.ext;have hk9:=st9.ok;have x79:=HX8.out.trans st9.ext;have a0:=HK.out.dag.none0;have a9:=hk9.dag.none0;have hip:IteP m9.d V9 f' g' h' r:=by
       refine⟨x09.ok HS.out.okF,x09.ok HS.out.okG,x09.ok HS.out.okH,hr9,fun ρ=>?_,?_⟩
       ·
        refine Zsj (lo:=lo) (hi:=hi) (v:=v) hk9 (x09.ok HS.out.okF) (x09.ok HS.out.okG) (x09.ok HS.out.okH) (by rw[x09.vars];exact HV.out) (by rw[x09.lev,x09.minL HK.out hk9 HS.out.okF HS.out.okG HS.out.okH,HLV.out];exact Nat.le_refl _) ?_ ?_ ?_ ρ
        ·
         intro ρ;rw[Zcx x09 a0 a9 HS.out.okF,Zcx x09 a0 a9 HS.out.okG,Zcx x09 a0 a9 HS.out.okH];exact(HLO.out.ext x79 HK7.out hk9).val ρ
        ·
         intro ρ;rw[Zcx x09 a0 a9 HS.out.okF,Zcx x09 a0 a9 HS.out.okG,Zcx x09 a0 a9 HS.out.okH];exact(HHI.out.ext st9.ext HK8.out hk9).val ρ
        ·
         rw[hrv,st9.ext.ef HHI.out.okR,st9.ext.ef (HX8.out.ok HLO.out.okR)];rfl
       ·
        rw[x09.minL HK.out hk9 HS.out.okF HS.out.okG HS.out.okH,<- HLV.out];have e1:=(HX7.out.trans HX8.out).lev;have e2:=(HX7.out.trans HX8.out).vars;rw[e1,e2] at hrl;rw[x09.vars];exact hrl
      have HAN:=Hd ((HS.out.ext x09 HK.out hk9 HF.out HG.out HH.out).answer (x09.ok HF.out) (x09.ok HG.out) (x09.ok HH.out) hip.okR hip.lev hip.val);obtain⟨s9,hm9⟩:=hst9.is;have HPUT:=Hd (Zsu o9 s9.me (K m9.d V9) 1 f' g' h' r w9 hm9.memo hst9.lt ((HK'.out.ite _ _ _ _ _ _).2 hip));have hrlt:r<eMax:=by
       obtain⟨ss,hss⟩:=hm9.store;have:=hss.edge_lt hip.okR;unfold eMax;omega
      have HFL:=Hd (fun W:World=>Zb1 r nt W hrlt);obtain⟨c0,c1,c2,c3,c4,c5,f0⟩:=cells6 hm9.blk;have cx:=(HX.out.chg hst9.chg).cell;have HM9:=Hd hm9;have HST9:=Hd hst9;have HWT9:=Hd (hwt9.trans (HWT8.out.trans HWT7.out));have HMN9:Hid (m9.d.pool.many+1<=m.d.pool.many+2^k):=Hd (by have a1:=HMN7.out;have a2:=HMN8.out;have a3:=HPW.out;omega);clear st9 hst9 x09 hk9 x79 a0 a9 hip hm9 hrlt hwt9 hr9 hrv hrl hmn9;go_wp2_with fail;refine HPUT.out.mono ?_;rintro x w10 ⟨rfl,o10,hme,hc10,hl10⟩;have HSTF:Hid (Step K o w mb m V o10 w10 m9 V9):=Hd ⟨⟨s9,HM9.out.setMemo HST9.out.lt hme hc10⟩,hl10,HST9.out.chg.trans hc10.any,HST9.out.ok,HST9.out.ext,HST9.out.hs,HST9.out.next⟩;clear hme hc10 hl10 c0 c1 c2 c3 c4 c5 f0 cx;go_wp2_with fail;refine(HFL.out _).mono ?_;rintro x w' ⟨rfl,rfl⟩;go_wp2_with fail;go_ret;exact⟨o10,m9,V9,HSTF.out,.inl ⟨_,rfl,HAN.out,HWT9.out,HMN9.out⟩⟩
    ·
     have HST8:=Hd (HST7.out.trans st8);have HQ:Hid (m8.waits=m.waits/\m8.d.pool.many=m8.d.pool.room/\m8.d.pool.many+2<=m.d.pool.many+2^k):=Hd ⟨hwt8.trans HWT7.out,hrm8,by have a1:=HMN7.out;have a3:=HPW.out;have a4:=HP1.out;omega⟩;clear st8 hwt8 hrm8 hmn8;unfold Zb8;go_wp2_with fail;exact⟨rfl,o8,m8,V8,HST8.out,.inr (.inl ⟨rfl,HQ.out.1,HQ.out.2.1,HQ.out.2.2⟩)⟩
    ·
     have HST8:=Hd (HST7.out.trans st8);have HQ:=Hd hwt8;clear st8 hwt8;unfold Zb8;go_wp2_with fail;exact⟨rfl,o8,m8,V8,HST8.out,.inr (.inr ⟨ev,rfl,by rw[<- HWT7.out];exact HQ.out⟩)⟩
   ·
    have HST7:=Hd (HST6.out.trans st7);have HQ:Hid (m7.waits=m.waits/\m7.d.pool.many=m7.d.pool.room/\m7.d.pool.many+2<=m.d.pool.many+2^k):=Hd ⟨hwt7,hrm7,by have a3:=HPW.out;have a4:=HP1.out;omega⟩;clear st7 hwt7 hrm7 hmn7;unfold Zb8;go_wp2_with fail;exact⟨rfl,o7,m7,V7,HST7.out,.inr (.inl ⟨rfl,HQ.out.1,HQ.out.2.1,HQ.out.2.2⟩)⟩
   ·
    have HST7:=Hd (HST6.out.trans st7);have HQ:=Hd hwt7;clear st7 hwt7;unfold Zb8;go_wp2_with fail;exact⟨rfl,o7,m7,V7,HST7.out,.inr (.inr ⟨ev,rfl,HQ.out⟩)⟩
  ·
   have hip:IteP m.d V f' g' h' r:=(HK'.out.ite _ _ _ _ _ _).1 hkr;have HAN:=Hd (HS.out.answer HF.out HG.out HH.out hip.okR hip.lev hip.val);have HFL:=Hd (fun W:World=>Zb1 r nt W (HLT.out _ hip.okR));clear hkr hip c0 c1 c2 c3 c4 c5 f0 cx;go_wp2_with fail;refine(HFL.out _).mono ?_;rintro x w' ⟨rfl,rfl⟩;go_wp2_with fail;go_ret;exact⟨o,m,V,HST1.out,.inl ⟨_,rfl,HAN.out,rfl,by have:=Nat.one_le_two_pow (n:=k);omega⟩⟩
theorem Zt5 {K:Law} (hK:Zc8 K):∀ k,Ybd K k:=by
 intro k
 induction k with
 | zero=>exact Zkb hK 0 (fun k' e=>absurd e (by omega))
 | succ k ih =>
   refine Zkb hK (k+1) (fun k' e=>?_);have e2:k'=k:=by omega
   rw[e2];exact ih
end Go.Proofs.YtlgogjbkadckkaaGreat

namespace Go.Proofs.YtlgogjbkadckkaaGreat
open Go.RowKit Go.Shelf
structure Wr (M:Nat->Prop) (w w':World):Prop where
 os:w'.os=w.os
 tape:w'.tape=w.tape
 output:w'.output=w.output
 size:w.heap.size<=w'.heap.size
 keep:∀ k,k<w.heap.size->¬ M k->w'.heap[k]?=w.heap[k]?
theorem Wr.refl (M:Nat->Prop) (w:World):Wr M w w:=⟨rfl,rfl,rfl,Nat.le_refl _,fun _ _ _=>rfl⟩
theorem Wr.trans {M M' N:Nat->Prop} {w w' w'':World} (h:Wr M w w') (h':Wr M' w' w'') (hM:∀ k,k<w.heap.size->M k->N k) (hM':∀ k,k<w.heap.size->M' k->N k):Wr N w w'' :=
 ⟨h'.os.trans h.os,h'.tape.trans h.tape,h'.output.trans h.output,Nat.le_trans h.size h'.size,fun k hk hn=>(h'.keep k (Nat.lt_of_lt_of_le hk h.size) (fun e=>hn (hM' k hk e))).trans (h.keep k hk (fun e=>hn (hM k hk e)))⟩
theorem Wr.mono {M N:Nat->Prop} {w w':World} (h:Wr M w w') (hM:∀ k,M k->N k):Wr N w w':=⟨h.os,h.tape,h.output,h.size,fun k hk hn=>h.keep k hk (fun e=>hn (hM k e))⟩
theorem Wr.drew {M:Nat->Prop} {w w':World} (h:Wr M w w'):Wr M w w'.drew:=⟨h.os,h.tape,h.output,h.size,h.keep⟩
theorem Wr.alloc {M:Nat->Prop} {w w':World} (h:Wr M w w') (o:Obj):Wr M w (w'.alloc o) :=
 ⟨h.os,h.tape,h.output,by simp;have:=h.size;omega,fun k hk hn=>(Below.heap_alloc w' o k (Nat.lt_of_lt_of_le hk h.size)).trans (h.keep k hk hn)⟩
theorem Wr.setCell {M:Nat->Prop} {w w':World} (h:Wr M w w') {p:Addr} (hp:M p.block\/w.heap.size<=p.block) (u:Value):Wr M w (w'.setCell p u) :=
 ⟨h.os,h.tape,h.output,by simp[World.setCell];exact h.size,fun k hk hn=>(Below.heap_setCell _ _ _ _ (by rintro rfl;rcases hp with hp|hp;exact hn hp;omega)).trans (h.keep k hk hn)⟩
theorem Wr.putObj {M:Nat->Prop} {w w':World} (h:Wr M w w') {l:Nat} (hl:M l\/w.heap.size<=l) (o:Obj):Wr M w (w'.putObj l o) :=
 ⟨h.os,h.tape,h.output,by simp;exact h.size,fun k hk hn=>(World.putObj_heap_other (by rintro rfl;rcases hl with hl|hl;exact hn hl;omega)).trans (h.keep k hk hn)⟩
theorem Wr.of_below {w w':World} (h:Below w.heap.size w w') (M:Nat->Prop):Wr M w w':=⟨h.os,h.tape,h.output,h.size,fun k hk _=>h.block k hk⟩
theorem Wr.below {M:Nat->Prop} {n₀:Nat} {w w':World} (h:Wr M w w') (hM:∀ k,M k->n₀<=k) (hn:n₀<=w.heap.size):Below n₀ w w' :=
 ⟨h.os,h.tape,h.output,h.size,fun k hk=>h.keep k (by omega) (fun e=>by have:=hM k e;omega)⟩
theorem Wr.of_grown {w w':World} {row:Option Nat} (h:w.grownBy w' row) (M:Nat->Prop) (hM:∀ k,row=some k->M k):Wr M w w' :=
 ⟨h.os,h.tape,h.output,h.size,fun k hk hn=>h.block k hk (fun e=>hn (hM k e.symm))⟩
section
variable {F:Fence} {n:Nat} {P:Program} {α:Type}
def Zr5 (n₀:Nat) (J:List α->(Nat->Prop)->World->Prop):Prop:=∀ pre M W,J pre M W->∀ k,M k->n₀<=k/\k<W.heap.size
def Minds (n₀:Nat) (J:List α->(Nat->Prop)->World->Prop):Prop:=∀ pre M W W',J pre M W->Wr (fun k=>n₀<=k/\¬ M k) W W'->J pre M W'
def Gives (F:Fence) (n d:Nat) (P:Program) (g:Nat) (lb:Array Value) (encs:α->Array Value) (n₀:Nat) (Bx:Nat->Prop) (xs:List α) (w:World):Prop :=
 ∀ (l:Nat) (J:List α->(Nat->Prop)->World->Prop) (M:Nat->Prop) (W:World),Zr5 n₀ J->Minds n₀ J->Wr (fun k=>n₀<=k/\¬ Bx k) w W->(∀ k,Bx k->¬ M k) ->
  (∀ pre x M W1,J pre M W1->(∃ suf,pre++x::suf=xs)->YieldAt F (n-1-d) P l (encs x) W1 fun e W' =>
   e=.returned (.bool true)/\∃ M',J (pre++[x]) M' W'/\Wr M W1 W'/\∀ k,M' k->M k\/W1.heap.size<=k) ->
  J [] M W ->
  CallsIn F n P g (#[.func (.yield l) #[] #[]]++lb) W fun e W'=>(∃ v,e=.returned v)/\∃ M',J xs M' W'/\Wr (fun k=>n₀<=k) W W'/\∀ k,M' k->M k\/W.heap.size<=k
theorem Ztp {g:Operand} {ps:Array Tmp} {assign body:Code} {Q:Exit->Act->World->Prop} {a:Act} {w:World} (hro:F.round=none) (h1:1<=n) {gf:Nat} {lb:Array Value} (hg:a.eval g=.func (.func gf) #[] lb)
 (hFg:F.fn gf) (eg:∀ args w,(callFunc gf args).run P w=.ok (.enter gf args) w) {encs:α->Array Value} {n₀:Nat} {Bx:Nat->Prop} {xs:List α} {d:Nat} (hseq:Gives F (n-1) d P gf lb encs n₀ Bx xs w) (hn0:n₀<=w.heap.size)
 (hBx:∀ k,Bx k->k<w.heap.size) (hps:∀ x,(encs x).size=ps.size) (I:List α->(Nat->Prop)->World->Prop) (hOw:Zr5 n₀ I) (hMi:Minds n₀ I) (M0:Nat->Prop) (hM0:∀ k,Bx k->¬ M0 k) (h0:I [] M0 w)
 (Ax:α->Act->World->World->Prop) (hAx:∀ x a' W W1 W2 l,l<W.heap.size->Ax x a' W W1->Wr (· = l) W1 W2->Ax x a' W W2)
 (hassign:∀ (l:Nat) (pre:List α) (x:α) (M:Nat->Prop) (W:World) (K:Act->World->Prop),I pre M W->(∀ a' W',Wr (fun _=>False) W W'->Ax x a' W W'->K a' W') ->
  assign.wpIn (F.inRound l) (n-1-1-d) P (Exit.then K (fun _ _ _=>False)) { tmps:=(ps.zip (encs x)).foldl (fun t (p,v)=>t.setIfInBounds p v) a.tmps,defers:=[] } W)
 (hbody:∀ (l:Nat) (pre:List α) (x:α) (a':Act) (M:Nat->Prop) (W0 W:World),I pre M W->Ax x a' W0 W->W0.heap.size<=W.heap.size->w.heap.size<=W0.heap.size->(∃ suf,pre++x::suf=xs)->body.wpIn (F.inRound l) (n-1-1-d) P
  (fun e _ W'=>match e with|.normal=>∃ M',I (pre++[x]) M' W'/\Wr (fun k=>M k\/W0.heap.size<=k) W W'/\(∀ k,M' k->M k\/W0.heap.size<=k)|_=>False) a' W)
 (hdone:∀ (D:Nat) (M:Nat->Prop) (W:World),w.heap.size<=D->¬ M D->I xs M W->(∀ k,M k->M0 k\/w.heap.size<=k)->Wr (fun k=>n₀<=k) w W->W.heap[D]?=some (.deferred (some []))->Q .normal { a with defers:={ target:=.collected D,args:=#[] }::a.defers } W) :
 (Code.rangeFunc g ps assign body).wpIn F n P Q a w:=by
 refine wpIn_rangeFunc ?_;intro fn hfn;rw[hro]
 let rec0:LoopState->Loop:=fun st=>{ state:=st,pending:=none,fn,tmps:=a.tmps,params:=ps,assign,body,defers:=w.heap.size }
 obtain⟨W1,hW1⟩:∃ W1,W1=(w.alloc (.deferred (some []))).alloc (.loop (rec0 .ready)):=⟨_,rfl⟩;have hL1:W1.heap[w.heap.size+1]?=some (.loop (rec0 .ready)):=by
  rw[hW1];have:=World.alloc_heap_new (w.alloc (.deferred (some []))) (.loop (rec0 .ready))
  rwa [World.size_alloc] at this
 have hD1:W1.heap[w.heap.size]?=some (.deferred (some [])):=by
  rw[hW1];exact(Below.heap_alloc _ _ _ (by simp)).trans (World.alloc_heap_new w _)
 have hw1:∀ N:Nat->Prop,Wr N w W1:=fun N=>by rw[hW1];exact((Wr.refl N w).alloc _).alloc _
 have hM0lt:=hOw [] M0 w h0;have hI1:I [] M0 W1:=hMi _ _ _ _ h0 (hw1 _)
 refine⟨w.heap.size+1,[{ target:=.collected w.heap.size,args:=#[] }],W1,{ target:=.fn (.func gf) lb,args:=#[.func (.yield (w.heap.size+1)) #[] #[]] },W1,gf,
  #[.func (.yield (w.heap.size+1)) #[] #[]]++lb,W1,?_,?_,?_,?_,fun _=>h1,?_⟩
 ·
  rw[hW1];exact run_enterLoop_outer _ _ _ _ _
 ·
  simp only[resolve,hg];simp[go_sem]
 ·
  intro f' hf';simp[Target.leads] at hf';subst hf';exact hFg
 ·
  simp[invoke,go_sem,eg]
 refine(hseq (w.heap.size+1)
  (fun pre N W=>∃ M,I pre M W/\(∀ k,N k↔(M k\/k=w.heap.size+1\/k=w.heap.size))/\¬ M (w.heap.size+1)/\¬ M w.heap.size/\(∀ k,M k->M0 k\/w.heap.size<=k) /\
   W.heap[w.heap.size+1]?=some (.loop (rec0 .ready))/\W.heap[w.heap.size]?=some (.deferred (some [])))
  (fun k=>M0 k\/k=w.heap.size+1\/k=w.heap.size) W1 ?_ ?_ (hw1 _) ?_ ?_ ?_).mono ?_
 ·
  rintro pre N W ⟨M,hi,hN,_,_,_,hl,hd⟩ k hk;rcases(hN k).1 hk with hk|hk|hk
  ·
   exact hOw _ _ _ hi k hk
  ·
   subst hk;exact⟨by omega,(Array.getElem?_eq_some_iff.1 hl).1⟩
  ·
   subst hk;exact⟨hn0,(Array.getElem?_eq_some_iff.1 hd).1⟩
 ·
  rintro pre N W W' ⟨M,hi,hN,h2,h3,h4,hl,hd⟩ hw;refine⟨M,hMi _ _ _ _ hi ?_,hN,h2,h3,h4,?_,?_⟩
  ·
   exact⟨hw.os,hw.tape,hw.output,hw.size,fun k hk hn=>hw.keep k hk (fun⟨a,b⟩=>hn ⟨a,fun e=>b ((hN k).2 (.inl e))⟩)⟩
  ·
   exact(hw.keep _ (Array.getElem?_eq_some_iff.1 hl).1 (fun⟨_,b⟩=>b ((hN _).2 (.inr (.inl rfl))))).trans hl
  ·
   exact(hw.keep _ (Array.getElem?_eq_some_iff.1 hd).1 (fun⟨_,b⟩=>b ((hN _).2 (.inr (.inr rfl))))).trans hd
 ·
  intro k hk hm;have:=hBx k hk;rcases hm with hm|hm|hm
  ·
   exact hM0 k hk hm
  ·
   omega
  ·
   omega
 ·
  rintro pre x N W ⟨M,hi,hN,h2,h3,h4,hl,hd⟩ hsuf;have hlt:w.heap.size+1<W.heap.size:=(Array.getElem?_eq_some_iff.1 hl).1;have hy:=run_yield (P:=P) (args:=encs x) hl (hps x);refine⟨fn,_,assign,body,hy,roundIn_of_wpIn hfn (hassign _ pre x M W _ hi ?_)⟩;intro a' Wa hwa hax;have hla:=(hwa.keep _ hlt (fun h=>h)).trans hl;have hda:=(hwa.keep _ (by omega) (fun h=>h)).trans hd;have hlta:w.heap.size+1<Wa.heap.size:=by have:=hwa.size;omega
  refine⟨_,run_beginRound hla rfl,?_⟩;have hia:I pre M Wa:=hMi _ _ _ _ hi (hwa.mono (fun _ h=>h.elim));have hwb:Wr (· = w.heap.size+1) Wa (Wa.putObj (w.heap.size+1) (.loop { rec0 .ready with state:=.busy })):=(Wr.refl (· = w.heap.size+1) Wa).putObj (l:=w.heap.size+1) (.inl rfl) _;have hib:I pre M (Wa.putObj (w.heap.size+1) (.loop { rec0 .ready with state:=.busy })):=hMi _ _ _ _ hia (hwb.mono (fun k e=>by have e':k=w.heap.size+1:=e;subst e';exact⟨by omega,h2⟩));have hlb:(Wa.putObj (w.heap.size+1) (.loop { rec0 .ready with state:=.busy })).heap[w.heap.size+1]?=some (.loop { rec0 .ready with state:=.busy }):=World.putObj_heap_same hlta;have hdb:(Wa.putObj (w.heap.size+1) (.loop { rec0 .ready with state:=.busy })).heap[w.heap.size]?=some (.deferred (some [])):=(World.putObj_heap_other (by omega)).trans hda;refine wpIn_mono (hbody _ pre x a' M W _ hib (hAx _ _ _ _ _ _ hlt hax hwb) (by simp;exact hwa.size) (by omega) hsuf) ?_;intro e a3 W3 hp;cases e with
  | normal =>
    obtain⟨M',hi3,hw3,hM'⟩:=hp;have hl3:=(hw3.keep _ (by simp;exact hlta) (fun e=>by rcases e with e|e;exact h2 e;omega)).trans hlb;have hd3:=(hw3.keep _ (by simp;omega) (fun e=>by rcases e with e|e;exact h3 e;omega)).trans hdb;have hlt3:=(Array.getElem?_eq_some_iff.1 hl3).1;have hm2:¬ M' (w.heap.size+1):=fun e=>by rcases hM' _ e with h|h;exact h2 h;omega
    have hm3:¬ M' w.heap.size:=fun e=>by rcases hM' _ e with h|h;exact h3 h;omega
    refine⟨_,_,run_endRound (P:=P) none hl3,rfl,fun k=>M' k\/k=w.heap.size+1\/k=w.heap.size,⟨M',?_,fun k=>Iff.rfl,hm2,hm3,?_,World.putObj_heap_same hlt3,(World.putObj_heap_other (by omega)).trans hd3⟩,?_,?_⟩
    ·
     exact hMi _ _ _ _ hi3 ((Wr.refl _ _).putObj (.inl ⟨by omega,hm2⟩) _)
    ·
     intro k hk;rcases hM' k hk with h|h
     ·
      exact h4 k h
     ·
      right;omega
    ·
     refine((((hwa.mono (N:=N) (fun _ h=>h.elim)).putObj (l:=w.heap.size+1) (.inl ((hN _).2 (.inr (.inl rfl)))) _).trans (N:=N) hw3 (fun k _ h=>h) (fun k hk h=>?_)).putObj (l:=w.heap.size+1) (.inl ((hN _).2 (.inr (.inl rfl)))) _);rcases h with h|h
     ·
      exact(hN k).2 (.inl h)
     ·
      omega
    ·
     rintro k (hk|hk)
     ·
      rcases hM' k hk with h|h
      ·
       exact .inl ((hN k).2 (.inl h))
      ·
       exact .inr h
     ·
      exact .inl ((hN k).2 (.inr hk))
  | ret=>exact hp.elim
  | exit id=>exact hp.elim
  | goto t=>exact hp.elim
  | panic ch=>exact hp.elim
  | outgrown=>exact hp.elim
 ·
  exact⟨M0,hI1,fun k=>Iff.rfl,fun e=>by have:=(hM0lt _ e).2;omega,fun e=>by have:=(hM0lt _ e).2;omega,fun k h=>.inl h,hL1,hD1⟩
 ·
  rintro e W2 ⟨⟨v,rfl⟩,N,⟨M,hi,hN,h2,h3,h4,hl,hd⟩,hw2,_⟩;refine⟨none,_,run_endLoop (P:=P) hl (by simp[rec0]),hdone _ M _ (Nat.le_refl _) h3 ?_ h4 ?_ ((World.putObj_heap_other (by omega)).trans hd)⟩
  ·
   exact hMi _ _ _ _ hi ((Wr.refl _ _).putObj (.inl ⟨by omega,h2⟩) _)
  ·
   exact((hw1 (fun k=>n₀<=k)).trans hw2 (fun _ _ h=>h) (fun _ _ h=>h)).putObj (.inl (by omega)) _
end
open Go.RowKit
structure Caught (sb:Nat) (er:Int) (evt:Bool) (ev:Ev) (w w':World):Prop where
 size:w.heap.size<=w'.heap.size
 os:w'.os=w.os
 tape:w'.tape=w.tape
 output:w'.output=w.output
 keep:∀ k,k<w.heap.size->k≠sb->w'.heap[k]?=w.heap[k]?
 blk:w'.heap[sb]?=some (.cells #[.int .i64 er,.bool evt,.int .i64 ev.after,.int .i64 ev.kind,.int .i64 ev.level] 178 (0,0))
theorem Zot {sb:Nat} {er:Int} {evt:Bool} {ev:Ev} {w:World} {a0 a1 a2 a3 a4:Value} (hs:w.heap[sb]?=some (.cells #[a0,a1,a2,a3,a4] 178 (0,0))) (ob:Obj) :
 Caught sb er evt ev w ((((((w.setCell ⟨sb,0,none⟩ (.int .i64 er)).setCell ⟨sb,1,none⟩ (.bool evt)).setCell ⟨sb,2,none⟩ (.int .i64 ev.after)).setCell ⟨sb,3,none⟩ (.int .i64 ev.kind)).setCell ⟨sb,4,none⟩ (.int .i64 ev.level)).alloc ob):=by
 have w1:=(Wr.refl (· = sb) w).setCell (p:=⟨sb,0,none⟩) (.inl rfl) (.int .i64 er);have h1:(w.setCell ⟨sb,0,none⟩ (.int .i64 er)).heap[sb]?=some (.cells #[.int .i64 er,a1,a2,a3,a4] 178 (0,0)):=Zae hs _
 generalize w.setCell ⟨sb,0,none⟩ (.int .i64 er)=W1 at *
 have w2:=w1.setCell (p:=⟨sb,1,none⟩) (.inl rfl) (.bool evt);have h2:(W1.setCell ⟨sb,1,none⟩ (.bool evt)).heap[sb]?=some (.cells #[.int .i64 er,.bool evt,a2,a3,a4] 178 (0,0)):=Zae h1 _
 generalize W1.setCell ⟨sb,1,none⟩ (.bool evt)=W2 at *
 have w3:=w2.setCell (p:=⟨sb,2,none⟩) (.inl rfl) (.int .i64 ev.after);have h3:(W2.setCell ⟨sb,2,none⟩ (.int .i64 ev.after)).heap[sb]?=some (.cells #[.int .i64 er,.bool evt,.int .i64 ev.after,a3,a4] 178 (0,0)):=Zae h2 _
 generalize W2.setCell ⟨sb,2,none⟩ (.int .i64 ev.after)=W3 at *
 have w4:=w3.setCell (p:=⟨sb,3,none⟩) (.inl rfl) (.int .i64 ev.kind);have h4:(W3.setCell ⟨sb,3,none⟩ (.int .i64 ev.kind)).heap[sb]?=some (.cells #[.int .i64 er,.bool evt,.int .i64 ev.after,.int .i64 ev.kind,a4] 178 (0,0)):=Zae h3 _
 generalize W3.setCell ⟨sb,3,none⟩ (.int .i64 ev.kind)=W4 at *
 have w5:=w4.setCell (p:=⟨sb,4,none⟩) (.inl rfl) (.int .i64 ev.level);have h5:(W4.setCell ⟨sb,4,none⟩ (.int .i64 ev.level)).heap[sb]?=some (.cells #[.int .i64 er,.bool evt,.int .i64 ev.after,.int .i64 ev.kind,.int .i64 ev.level] 178 (0,0)):=Zae h4 _
 generalize W4.setCell ⟨sb,4,none⟩ (.int .i64 ev.level)=W5 at *
 have w6:=w5.alloc ob;exact⟨w6.size,w6.os,w6.tape,w6.output,fun k hk hne=>w6.keep k hk hne,(Go.heap_alloc_old _ _ (Array.getElem?_eq_some_iff.1 h5).1).trans h5⟩
theorem Zlk (v:Value) (w:World):(Instr.typeAssert (.iface 178 v) 20 178 true).run Tryz.prog w=.ok (.tuple #[v,.bool true]) w:=by
 simp[Instr.typeAssert,run_underlying Tryz.underlying178,go_sem,Result.andThen]
theorem Zt1 (dn st:Addr) (w:World) (hd:w.cell? dn=some (.bool true)) :
 CallsD Tryz.prog 159 #[.pointer (some dn),.pointer (some st)] .returning w fun e u' w'=>e=.returned (.tuple #[])/\u'=.returning/\w'=w:=by
 refine callsD_of_wpS Tryz.func159 rfl fun c₀ cs hu=>?_
 apply wpS_seq;apply wpS_seq;apply wpS_region;simp[wpOpsS,go_sem,hd,Tryz.ntmps159,Exit.thenS];refine wpS_cond (t:=true) (by simp[Act.eval,Array.replicate]) ?_;simp only[if_true];refine wpS_of_wp (wp_ret ?_);cases c₀
 simp_all [Exit.thenS,bodyPostS,results,Tryz.results159]
theorem Zj3 (dn sb:Nat) (er:Int) (evt:Bool) (ev:Ev) (older:List PanicEntry) (w:World) (a0 a1 a2 a3 a4:Value) (hd:w.cell? ⟨dn,0,none⟩=some (.bool false)) (hs:w.heap[sb]?=some (.cells #[a0,a1,a2,a3,a4] 178 (0,0))) :
 CallsD Tryz.prog 159 #[.pointer (some ⟨dn,0,none⟩),.pointer (some ⟨sb,0,none⟩)] (.panicking ({ v:=.iface 178 (.agg #[.int .i64 er,.bool evt,.int .i64 ev.after,.int .i64 ev.kind,.int .i64 ev.level]),recovered:=false }::older)) w fun e u' w' =>
  e=.returned (.tuple #[])/\u'=.panicking ({ v:=.iface 178 (.agg #[.int .i64 er,.bool evt,.int .i64 ev.after,.int .i64 ev.kind,.int .i64 ev.level]),recovered:=true }::older) /\
  Caught sb er evt ev w w':=by
 refine callsD_of_wpS Tryz.func159 rfl fun c₀ cs hu=>?_
 simp only[Tryz.ntmps159,List.size_toArray,List.length_cons,List.length_nil,Nat.reduceAdd,Nat.reduceSub,Array.replicate_succ,Array.replicate_zero,List.push_toArray,List.append_toArray,List.nil_append,List.cons_append];apply wpS_seq;apply wpS_seq;apply wpS_region;simp[wpOpsS,go_sem,hd,Exit.thenS];refine wpS_cond (t:=false) (by simp[Act.eval]) ?_;simp only[Bool.false_eq_true,if_false];refine wpS_of_wp (wp_skip ?_);simp only[Exit.thenS];apply wpS_seq;apply wpS_region;simp[wpOpsS,go_sem,recoverD,hu,Exit.thenS];have lsb:sb<w.heap.size:=(Array.getElem?_eq_some_iff.1 hs).1;obtain⟨c0,c1,c2,c3,c4,f0⟩:=cells5 hs;refine wpS_of_wp (wp_mono (Q:=fun e a' w'=>e=.normal/\a'.defers=[]/\Caught sb er evt ev w w') ?_ ?_)
 ·
  have HS:=Hd hs;have hta:=fun v=>Zlk v w
  clear hs;go_wp2_with fail
  first|exact⟨rfl,rfl,Zot HS.out _⟩|exact Zot HS.out _
 ·
  rintro e a' w' ⟨rfl,h1,h2⟩;refine⟨h1,_,rfl,_,results_none rfl _ _ _,?_⟩;exact⟨rfl,rfl,h2⟩
open Go.RowKit
abbrev Stop:=Int×Bool×Ev
def Ycm (r:Option Stop):Value :=
 match r with
 | some (er,evt,ev)=>.agg #[.int .i64 er,.bool evt,.int .i64 ev.after,.int .i64 ev.kind,.int .i64 ev.level]
 | none=>.agg #[.int .i64 0,.bool false,.int .i64 0,.int .i64 0,.int .i64 0]
def tryW (mb:Nat) (w:World):World :=
 ((w.alloc (.cells #[.int .i64 0,.bool false,.int .i64 0,.int .i64 0,.int .i64 0] 178)).alloc (.cells #[.bool false] 4)).alloc (.cells #[.pointer (some ⟨mb,0,none⟩)] 174)
def Ybf (w:World) (R:Option Stop->World->Prop) (x:Ending) (w':World):Prop :=
 ∃ r W',R r W'/\Wr (fun k=>k=w.heap.size\/k=w.heap.size+1) W' w'/\x=.returned (.tuple #[Ycm r,.bool r.isNone])
def Zvi (gf:Nat) (lb:Array Value) (mb:Nat) (w:World) (R:Option Stop->World->Prop):Prop :=
 Calls Tryz.prog gf (#[.pointer (some ⟨w.heap.size+2,0,none⟩)]++lb) (tryW mb w) fun e W' =>
  (tryW mb w).heap.size<=W'.heap.size/\W'.heap[w.heap.size]?=(tryW mb w).heap[w.heap.size]?/\W'.heap[w.heap.size+1]?=(tryW mb w).heap[w.heap.size+1]? /\
   ((e=.returned (.tuple #[])/\R none W')\/∃ er evt ev,e=Zb8 er evt ev/\R (some (er,evt,ev)) W')
theorem Zt6 {s:Nat} {W:World} (h0:W.heap[s]?=some (.cells #[.int .i64 0,.bool false,.int .i64 0,.int .i64 0,.int .i64 0] 178 (0,0))) (h1:W.heap[s+1]?=some (.cells #[.bool false] 4 (0,0))) {W2:World}
 (hW:W2=(((((W.setCell ⟨s,0,none⟩ (.int .i64 0)).setCell ⟨s,1,none⟩ (.bool false)).setCell ⟨s,2,none⟩ (.int .i64 0)).setCell ⟨s,3,none⟩ (.int .i64 0)).setCell ⟨s,4,none⟩ (.int .i64 0)).setCell ⟨s+1,0,none⟩ (.bool true)) :
 Wr (fun k=>k=s\/k=s+1) W W2/\W2.heap[s]?=some (.cells #[.int .i64 0,.bool false,.int .i64 0,.int .i64 0,.int .i64 0] 178 (0,0))/\W2.heap[s+1]?=some (.cells #[.bool true] 4 (0,0)):=by
 have n1:s+1≠s:=by omega
 have w1:=(Wr.refl (fun k=>k=s\/k=s+1) W).setCell (p:=⟨s,0,none⟩) (.inl (.inl rfl)) (.int .i64 0);have a1:(W.setCell ⟨s,0,none⟩ (.int .i64 0)).heap[s]?=some (.cells #[.int .i64 0,.bool false,.int .i64 0,.int .i64 0,.int .i64 0] 178 (0,0)):=Zae h0 _;have b1:=(Zad (p:=⟨s,0,none⟩) (w:=W) n1 (.int .i64 0)).trans h1
 generalize W.setCell ⟨s,0,none⟩ (.int .i64 0)=W1 at *
 have w2:=w1.setCell (p:=⟨s,1,none⟩) (.inl (.inl rfl)) (.bool false);have a2:(W1.setCell ⟨s,1,none⟩ (.bool false)).heap[s]?=some (.cells #[.int .i64 0,.bool false,.int .i64 0,.int .i64 0,.int .i64 0] 178 (0,0)):=Zae a1 _;have b2:=(Zad (p:=⟨s,1,none⟩) (w:=W1) n1 (.bool false)).trans b1
 generalize W1.setCell ⟨s,1,none⟩ (.bool false)=W3 at *
 have w3:=w2.setCell (p:=⟨s,2,none⟩) (.inl (.inl rfl)) (.int .i64 0);have a3:(W3.setCell ⟨s,2,none⟩ (.int .i64 0)).heap[s]?=some (.cells #[.int .i64 0,.bool false,.int .i64 0,.int .i64 0,.int .i64 0] 178 (0,0)):=Zae a2 _;have b3:=(Zad (p:=⟨s,2,none⟩) (w:=W3) n1 (.int .i64 0)).trans b2
 generalize W3.setCell ⟨s,2,none⟩ (.int .i64 0)=W4 at *
 have w4:=w3.setCell (p:=⟨s,3,none⟩) (.inl (.inl rfl)) (.int .i64 0);have a4:(W4.setCell ⟨s,3,none⟩ (.int .i64 0)).heap[s]?=some (.cells #[.int .i64 0,.bool false,.int .i64 0,.int .i64 0,.int .i64 0] 178 (0,0)):=Zae a3 _;have b4:=(Zad (p:=⟨s,3,none⟩) (w:=W4) n1 (.int .i64 0)).trans b3
 generalize W4.setCell ⟨s,3,none⟩ (.int .i64 0)=W5 at *
 have w5:=w4.setCell (p:=⟨s,4,none⟩) (.inl (.inl rfl)) (.int .i64 0);have a5:(W5.setCell ⟨s,4,none⟩ (.int .i64 0)).heap[s]?=some (.cells #[.int .i64 0,.bool false,.int .i64 0,.int .i64 0,.int .i64 0] 178 (0,0)):=Zae a4 _;have b5:=(Zad (p:=⟨s,4,none⟩) (w:=W5) n1 (.int .i64 0)).trans b4
 generalize W5.setCell ⟨s,4,none⟩ (.int .i64 0)=W6 at *
 subst hW;exact⟨w5.setCell (p:=⟨s+1,0,none⟩) (.inl (.inr rfl)) _,(Zad (Ne.symm n1) _).trans a5,Zae b5 _⟩
theorem Ycq (mb gf:Nat) (lb:Array Value) (w:World) (R:Option Stop->World->Prop) (eg:∀ args w,(callFunc gf args).run Tryz.prog w=.ok (.enter gf args) w) (hop:Zvi gf lb mb w R) :
 Calls Tryz.prog 128 #[.pointer (some ⟨mb,0,none⟩),.func (.func gf) #[] lb] w (Ybf w R):=by
 have hmf:∀ (fn:Fn) (first cap:Array Value) (w:World),(Instr.makeFunc fn first cap).run Tryz.prog w=.ok (.func fn first cap) w:=fun _ _ _ _=>rfl
 unfold Zvi at hop;obtain⟨W,hW⟩:∃ W,W=tryW mb w:=⟨_,rfl⟩;have HW:Hid (_=W):=Hd hW.symm;rw[<- hW] at hop;have HOP:=Hd hop;clear hop hW
 go_enter_defers Tryz.func128,Tryz.ntmps128
 go_wp2_with fail
 change Calls _ _ _ (tryW mb w) _
 have hT0:(tryW mb w).heap[w.heap.size]?=some (.cells #[.int .i64 0,.bool false,.int .i64 0,.int .i64 0,.int .i64 0] 178 (0,0)):=by
  unfold tryW;exact(Go.heap_alloc_old _ _ (by simp;omega)).trans ((Go.heap_alloc_old _ _ (by simp)).trans (heap_alloc_new w _))
 have hT1:(tryW mb w).heap[w.heap.size+1]?=some (.cells #[.bool false] 4 (0,0)):=by
  unfold tryW;refine(Go.heap_alloc_old _ _ (by simp)).trans ?_;have:=heap_alloc_new (w.alloc (.cells #[.int .i64 0,.bool false,.int .i64 0,.int .i64 0,.int .i64 0] 178)) (.cells #[.bool false] 4)
  rwa [World.size_alloc] at this
 rw[HW.out] at hT0 hT1 ⊢;have hsz0:W.heap.size=w.heap.size+3:=by rw[<- HW.out];simp[tryW]
 refine HOP.out.mono ?_;rintro e W' ⟨hsz,hk1,hk2,hcase⟩;have hb0:=hk1.trans hT0;have hb1:=hk2.trans hT1;obtain⟨c0,c1,c2,c3,c4,f0⟩:=cells5 hb0;have c5:W'.cell? ⟨w.heap.size+1,0,none⟩=some (.bool false):=by rw[cell_of_row W' _ 0 _ _ _ hb1];rfl
 have f1:∀ k,W'.frozen? ⟨w.heap.size+1,k,none⟩=false:=fun k=>by simp[World.frozen?,hb1]
 obtain⟨s,hs⟩:∃ s,s=w.heap.size:=⟨_,rfl⟩;rw[<- hs] at hb0 hb1 c0 c1 c2 c3 c4 f0 c5 f1 ⊢;have hs1:s<W'.heap.size:=by omega
 have hs2:s+1<W'.heap.size:=by omega
 have HB0:=Hd hb0;have HB1:=Hd hb1;have HS:=Hd hs;clear hT0 hT1 hk1 hk2 hb0 hb1 hs hsz0 hsz HOP HW;rcases hcase with ⟨rfl,hr⟩|⟨er,evt,ev,rfl,hr⟩
 ·
  have HR:=Hd hr;clear hr;go_wp2_with fail;obtain⟨W2,hW2⟩:∃ W2,W2=(((((W'.setCell ⟨s,0,none⟩ (.int .i64 0)).setCell ⟨s,1,none⟩ (.bool false)).setCell ⟨s,2,none⟩ (.int .i64 0)).setCell ⟨s,3,none⟩ (.int .i64 0)).setCell ⟨s,4,none⟩ (.int .i64 0)).setCell ⟨s+1,0,none⟩ (.bool true):=⟨_,rfl⟩;obtain⟨q1,q2,q3⟩:=Zt6 HB0.out HB1.out hW2;rw[<- hW2];clear hW2 c0 c1 c2 c3 c4 f0 c5 f1;obtain⟨c0,c1,c2,c3,c4,f0⟩:=cells5 q2;have c5:W2.cell? ⟨s+1,0,none⟩=some (.bool true):=by rw[cell_of_row W2 _ 0 _ _ _ q3];rfl
  refine leaves_cons (f:=159) (args:=#[.pointer (some ⟨s+1,0,none⟩),.pointer (some ⟨s,0,none⟩)]) (by simp) (by simp[go_sem]) ?_;refine(Zt1 ⟨s+1,0,none⟩ ⟨s,0,none⟩ _ c5).mono ?_;rintro e u' w'' ⟨rfl,rfl,rfl⟩;simp[Leaves,settle,results,Tryz.results128,go_sem,c0,c1,c2,c3,c4,c5];exact⟨none,W',HR.out,by rw[<- HS.out];exact q1,rfl⟩
 ·
  have HR:=Hd hr;clear hr;unfold Zb8;go_wp2_with fail;refine leaves_cons (f:=159) (args:=#[.pointer (some ⟨s+1,0,none⟩),.pointer (some ⟨s,0,none⟩)]) (by simp) (by simp[go_sem]) ?_;refine(Zj3 (s+1) s er evt ev [] _ _ _ _ _ _ c5 HB0.out).mono ?_;rintro e u' w'' ⟨rfl,rfl,hc⟩;have q3:=(hc.keep (s+1) hs2 (by omega)).trans HB1.out;clear c0 c1 c2 c3 c4 f0 c5 f1;obtain⟨c0,c1,c2,c3,c4,f0⟩:=cells5 hc.blk;have c5:w''.cell? ⟨s+1,0,none⟩=some (.bool false):=by rw[cell_of_row w'' _ 0 _ _ _ q3];rfl
  simp[Leaves,settle,results,Tryz.results128,go_sem,c0,c1,c2,c3,c4,c5];exact⟨some (er,evt,ev),W',HR.out,⟨hc.os,hc.tape,hc.output,hc.size,fun k hk hn=>hc.keep k hk (fun e=>hn (.inl (e.trans HS.out)))⟩,rfl⟩
open Go.RowKit
abbrev Ali (s:Nat) (W W':World):Prop:=Wr (fun k=>k=s\/k=s+1) W W'
structure Ydm (gf:Nat) (lb:Array Value) (mb:Nat) (I:Nat->Bool->World->Prop) (Fin:Int->World->Prop) (n:Nat) (room:Bool) (W:World) (R:Option Stop->World->Prop):Prop where
 op:Zvi gf lb mb W R
 fin:∀ W1 W2,R none W1->Ali W.heap.size W1 W2->Fin 0 W2
 event:∀ er ev W1 W2,R (some (er,true,ev)) W1->Ali W.heap.size W1 W2->Calls Tryz.prog 129 #[.pointer (some ⟨mb,0,none⟩),evA ev] W2 fun x w'=>x=.returned (.tuple #[])/\∃ n',n'<n/\I n' false w'
 full:∀ ev W1 W2,R (some (7,false,ev)) W1->Ali W.heap.size W1 W2->room=false->Calls Tryz.prog 23 #[.pointer (some ⟨mb,0,none⟩)] W2 fun x w'=>(∃ v,x=.returned v)/\I n true w'
 err:∀ er ev W1 W2,R (some (er,false,ev)) W1->Ali W.heap.size W1 W2->¬ (er=7/\room=false)->Fin er W2
theorem Zx2 (mb gf:Nat) (lb:Array Value) (w:World) (eg:∀ args w,(callFunc gf args).run Tryz.prog w=.ok (.enter gf args) w) (I:Nat->Bool->World->Prop) (Fin:Int->World->Prop)
 (hI:∀ n room W,I n room W->∃ R,Ydm gf lb mb I Fin n room W R) (n0:Nat) (h0:I n0 false w) :
 Calls Tryz.prog 96 #[.pointer (some ⟨mb,0,none⟩),.func (.func gf) #[] lb] w fun x w'=>∃ er,x=.returned (.int .i64 er)/\Fin er w':=by
 have HI:=Hd hI;clear hI
 go_enter Tryz.func96,Tryz.ntmps96
 go_wp2_with fail
 go_loopg [5] (2*n0+1) (fun gk s5 wx=>∃ (n:Nat) (room:Bool),s5=.bool room/\I n room wx/\gk=2*n+(if room then 0 else 1))
 case atStart=>exact⟨n0,false,rfl,h0,rfl⟩
 case round =>
  obtain⟨n,room,rfl,hi,hgk⟩:=hrel;obtain⟨R,hR⟩:=HI.out n room wr hi;have HTRY:=Hd (Ycq mb gf lb wr R eg hR.op);have HR:=Hd hR;have HGK:=Hd hgk;clear hi hR hgk h0;go_wp2_with fail;refine HTRY.out.mono ?_;rintro x w2 ⟨r,W1,hr,hw,rfl⟩;obtain⟨bx,hbx⟩:∃ bx,bx=w2.heap.size:=⟨_,rfl⟩;cases r with
  | none =>
    have HF:=Hd fun W2 (h:Wr (fun _=>False) w2 W2)=>HR.out.fin W1 W2 hr (hw.trans h (fun _ _ e=>e) (fun _ _ e=>e.elim))
    clear hr hw;unfold Ycm;go_wp2_with fail;go_ret;exact⟨0,rfl,HF.out _ ((Wr.refl _ w2).alloc _)⟩
  | some st =>
    obtain⟨er,evt,ev⟩:=st;unfold Ycm;cases evt with
    | true =>
      have HF:=Hd fun W2 (h:Wr (fun _=>False) w2 W2)=>HR.out.event er ev W1 W2 hr (hw.trans h (fun _ _ e=>e) (fun _ _ e=>e.elim))
      clear hr hw;go_wp2_with fail;refine(HF.out _ ((Wr.refl _ w2).alloc _)).mono ?_;rintro x w3 ⟨rfl,n',hn',hi'⟩;have HN':=Hd hn';have HI':=Hd hi';clear hn' hi';go_wp2_with fail
      go_roundg (2*n'+1)
      case rel=>exact⟨n',false,rfl,HI'.out,rfl⟩
      case measure=>have h1:=HN'.out;have h2:=HGK.out;omega
    | false =>
      have HW:=Hd fun W2 (h:Wr (fun _=>False) w2 W2)=>hw.trans h (N:=fun k=>k=wr.heap.size\/k=wr.heap.size+1) (fun _ _ e=>e) (fun _ _ e=>e.elim)
      have HRR:=Hd hr;clear hr hw
      by_cases h7:er=7
      ·
       subst h7;cases room with
       | false =>
         have HF:=Hd fun W2 (h:Wr (fun _=>False) w2 W2)=>HR.out.full ev W1 W2 HRR.out (HW.out W2 h) rfl
         go_wp2_with fail;refine(HF.out _ ((Wr.refl _ w2).alloc _)).mono ?_;rintro x w3 ⟨⟨vv,rfl⟩,hi'⟩;have HI':=Hd hi';clear hi';go_wp2_with fail
         go_roundg (2*n)
         case rel=>exact⟨n,true,rfl,HI'.out,rfl⟩
         case measure=>have h2:=HGK.out;simp at h2;omega
       | true =>
         have HF:=Hd fun W2 (h:Wr (fun _=>False) w2 W2)=>HR.out.err 7 ev W1 W2 HRR.out (HW.out W2 h) (by simp)
         go_wp2_with fail;go_ret;exact⟨_,rfl,HF.out _ ((Wr.refl _ w2).alloc _)⟩
      ·
       have H7:((er:Int) == 7)=false:=by simpa using h7
       have HF:=Hd fun W2 (h:Wr (fun _=>False) w2 W2)=>HR.out.err er ev W1 W2 HRR.out (HW.out W2 h) (fun e=>h7 e.1)
       go_wp2_with fail;go_ret;exact⟨_,rfl,HF.out _ ((Wr.refl _ w2).alloc _)⟩
open Go.RowKit
theorem Yau {d:Zac} {V:Nat->BF} (hk:Zaj d V):Acy (Zaa d) (fun i=>d.vars.length-lvE d.vars.length (levN d) (Zaa d) (2*i)):=by
 have e2:∀ i:Nat,2*i/2=i:=fun i=>by omega
 have hl:∀ i b,Zaa d i=some b->lvE d.vars.length (levN d) (Zaa d) (2*i)=levN d b.v:=fun i b h=>by unfold lvE;rw[e2,h]
 have hh:∀ e,lvE d.vars.length (levN d) (Zaa d) (2*(e/2))=lvE d.vars.length (levN d) (Zaa d) e:=fun e=>Zgq (e2 _)
 refine⟨hk.dag.none0,hk.dag.okLo,hk.dag.okHi,fun i b c h1 h2=>?_,fun i b c h1 h2=>?_⟩
 ·
  have a1:=hk.dag.lvLo _ _ h1;have a2:=hk.dag.lt _ (hk.dag.var _ _ h1);have a3:=hh b.lo;rw[hl i b h1];omega
 ·
  have a1:=hk.dag.lvHi _ _ h1;have a2:=hk.dag.lt _ (hk.dag.var _ _ h1);have a3:=hh b.hi;rw[hl i b h1];omega
theorem Yb3 {o:Own} {w:World} {sb:Nat} {d:Zac} {V:Nat->BF} (h:Zaq o w sb d) (hlt:Zai o w) (hk:Zaj d V) (f:Nat) (hf:okE (Zaa d) f) (htop:∀ y b,Zaa d y=some b->Zat d y<1099511627776) :
 Calls Tryz.prog 80 #[.pointer (some ⟨sb,0,none⟩),.int .i64 f] w fun x w'=>x=.returned (.int .i64 0)/\∃ d',Zaq o w' sb d'/\Zai o w'/\Zfs d d' f 1/\Chg Zam o o w w':=by
 obtain⟨s,h⟩:=h;have hlt':=h.edge_lt hf;rcases hf with h0|⟨b,hb⟩
 ·
  refine(Zlp h hlt hk.live f (by unfold eMax;omega) h0).mono ?_;rintro e w' ⟨d',h1,h2,h3,h4,h5⟩;exact⟨h1,d',⟨s,h2⟩,h3,h4,h5⟩
 ·
  refine(Zlo h hlt hk.live (Yau hk) f (b:=b) hb htop).mono ?_;rintro e w' ⟨d',h1,h2,h3,h4,h5⟩;exact⟨h1,d',⟨s,h2⟩,h3,h4,h5⟩
theorem Zfs.ok {d d':Zac} {V:Nat->BF} {f:Nat} {sg:Int} (r:Zfs d d' f sg) (hk:Zaj d V):Zaj d' V:=by
 have hl:levN d'=levN d:=by funext v;unfold levN;rw[r.level]
 exact⟨by rw[r.vars,hl,r.nodes];exact hk.dag,r.live,by rw[r.vars,r.nodes,r.tab];exact hk.tab,by rw[r.clen];exact hk.clen,by rw[r.vars];exact hk.small,by rw[r.vars,hl];exact hk.inv,by rw[r.vars,hl];exact hk.vlt⟩
theorem Zny (hs:List (Int×Nat)) (n:Int) (f i:Nat) (hn:1<n):Zbo (hs++[(n,f)]) i=Zbo hs i+(if f/2=i then 1 else 0):=by
 unfold Zbo;rw[List.filter_append,List.length_append];congr 1
 by_cases e:f/2=i
 ·
  simp[e,hn]
 ·
  have:(f/2 == i)=false:=by simp[e]
  simp[e,this,List.filter]
theorem Zxx (hs:List (Int×Nat)) (i:Nat):Zbo hs i<=hs.length:=List.length_filter_le _ _
structure Gave (K:Law) (o:Own) (w:World) (mb:Nat) (m:ManD) (V:Nat->BF) (f:Nat) (o':Own) (w':World) (m':ManD):Prop where
 is:Zd0 (K m'.d V) o' w' mb m'
 lt:Zai o' w'
 chg:Chg (fun _=>True) o o' w w'
 ok:Zvd m' V
 hs:m'.hs=m.hs++[(m.next,f)]
 next:m'.next=m.next+1
 waits:m'.waits=m.waits
 calls:m'.calls=m.calls
 nodes:Zaa m'.d=Zaa m.d
 vars:m'.d.vars=m.d.vars
 level:m'.d.level=m.d.level
 room:m'.d.pool.room=m.d.pool.room
 many:m'.d.pool.many=m.d.pool.many
theorem Zpe {m:ManD} {d':Zac} {f:Nat} (h:Zbr m) (r:Zfs m.d d' f 1) (hf:okE (Zaa m.d) f) (h0:Zaa m.d 0=none):Zbr { m with d:=d',hs:=m.hs++[(m.next,f)],next:=m.next+1 }:=by
 have hn:=h.next
 refine⟨?_,by simp[h.zero],by simp[h.one],?_,by dsimp only;omega,?_,?_,?_⟩
 ·
  dsimp only;rw[List.map_append,List.nodup_append];refine⟨h.nodup,by simp,fun a ha b hb=>?_⟩;simp at hb;subst hb;rintro rfl;obtain⟨p,hp,e⟩:=List.mem_map.1 ha;have:=(h.lt p hp).2;omega
 ·
  intro p hp;rcases List.mem_append.1 hp with hp|hp
  ·
   have:=h.lt p hp;dsimp only;omega
  ·
   simp at hp;subst hp;dsimp only;omega
 ·
  intro p hp;dsimp only;rw[r.nodes];rcases List.mem_append.1 hp with hp|hp
  ·
   exact h.ok p hp
  ·
   simp at hp;subst hp;exact hf
 ·
  have:=h.len;simp;omega
 ·
  intro i b hb;dsimp only at hb ⊢;rw[r.nodes] at hb;have hi:i≠0:=by rintro rfl;rw[h0] at hb;cases hb
  rw[r.ext i hi,h.refs i b hb,Zny _ _ _ _ (by omega)];unfold toE;split<;>simp
theorem Zzw {k:Int} {v:Value} {l:List (Int×Value)} (h:∀ p∈l,p.1≠k):putL k v l=l++[(k,v)]:=by
 have h1:=Zcu.2 h;unfold getL at h1;unfold putL;cases e:Zbw k l 0 with
 | none=>rfl
 | some p=>rw[e] at h1;cases h1
theorem Zbz.setMap {F:Phi} {o:Own} {w w':World} {mb:Nat} {m:ManD} {s:ManW} (h:Zbz F o w mb m s) (hlt:Zai o w) {hs':List (Int×Nat)} (hm:Zaz w' s.hb (Value.int .i64) (encH hs')) (hg:w.grownBy w' (some s.hb)):Zbz F o w' mb { m with hs:=hs' } s:=by
 have k:∀ {g r},o g=some r->r ≠ .handles->w'.heap[g]?=w.heap[g]?:=fun hq hr=>hg.block _ (hlt _ _ hq) (fun e=>by cases e;have:=h.ownh;rw[hq] at this;cases this;exact hr rfl)
 exact⟨h.own,(k h.own (by simp)).trans h.blk,h.store.keepR (fun g r hq hr=>k hq (by rintro rfl;simp[Zam,Zfb] at hr)) (fun _ _ h=>h),h.memo.keep (fun g r hq hr=>k hq (by rintro rfl;rcases hr with e|e<;>cases e)) (fun _ _ h=>h),h.ownh,hm,
  h.waits.keep (fun g hq=>k hq (by simp)) (fun _ h=>h)⟩
theorem kI:Zld Tryz.prog 3 (Value.int .i64):=Zkl Tryz.underlying3
theorem Znc {K:Law} (hK:Zc8 K) {o:Own} {w:World} {mb:Nat} {m:ManD} {V:Nat->BF} (hm:Zd0 (K m.d V) o w mb m) (hlt:Zai o w) (hk:Zvd m V) (f:Nat) (hf:okE (Zaa m.d) f) (hb:m.next<1099511627776) :
 Calls Tryz.prog 39 #[.pointer (some ⟨mb,0,none⟩),.int .i64 f] w fun x w'=>x=.returned (.int .i64 m.next)/\∃ o' m',Gave K o w mb m V f o' w' m':=by
 obtain⟨s,hm⟩:=hm;obtain⟨c0,c1,c2,c3,c4,c5,f0⟩:=cells6 hm.blk
 have HHO:=Hd (Yb3 hm.store hlt hk.store f hf (fun y b hy=>by
  rw[hk.handles.refs y b hy];have h1:=Zxx m.hs y;have h2:=hk.handles.len;omega))
 have hn2:=hk.handles.next
 have HM:=Hd hm;have HL:=Hd hlt;have HK:=Hd hk;have HF:=Hd hf;have HLAW:=Hd hK;clear hm hlt hk hf hK
 go_enter Tryz.func39,Tryz.ntmps39
 go_wp2_with fail;refine HHO.out.mono ?_;rintro x w1 ⟨rfl,d',hst,hl1,hr,hc1⟩;have hM1:=HM.out.setStore HL.out hst hc1;have hfresh:∀ p∈encH m.hs,p.1≠m.next:=by
  intro p hp e0;obtain⟨q,hq,rfl⟩:=List.mem_map.1 hp;have h1:=HK.out.handles.lt q hq;have h2:q.1<m.next:=h1.2
  have h3:q.1=m.next:=e0
  omega
 have HFR:=Hd hfresh;have HM1:=Hd hM1;have HL1:=Hd hl1;have HR:=Hd hr;have HC1:=Hd hc1;clear hst hl1 hr hc1 hfresh c0 c1 c2 c3 c4 c5 f0;obtain⟨c0,c1,c2,c3,c4,c5,f0⟩:=cells6 hM1.blk;clear hM1;go_upto_region 3 with fail
 go_wp2_with (refine Zg5 (l := encH m.hs) rfl _ _ _ rfl kI Tryz.underlying84 m.next (.int .i64 (f : Nat)) rfl rfl rfl HM1.out.map ?_
              intro w2 hm2 hg2;have hl2:Zai o w2:=HL1.out.mono hg2.size;rw[Zzw HFR.out] at hm2;have hM2:=HM1.out.setMap HL1.out (hs':=m.hs++[(m.next,f)]) (by simpa [encH] using hm2) hg2;have hc2:Chg (fun _=>True) o o w w2:=HC1.out.any.grown hg2 (fun g hg=>by cases hg;exact⟨_,HM1.out.ownh,trivial⟩);have HM2:=Hd hM2;have HL2:=Hd hl2;have HC2:=Hd hc2;clear c0 c1 c2 c3 c4 c5 f0 hm2 hg2 hl2 hc2;obtain⟨c0,c1,c2,c3,c4,c5,f0⟩:=cells6 hM2.blk;clear hM2)
 go_ret;have hr:=HR.out;have hM3:Zbz (K m.d V) o (w2.setCell ⟨mb,3,none⟩ (.int .i64 (m.next+1))) mb { m with d:=d',hs:=m.hs++[(m.next,f)],next:=m.next+1 } s:=HM2.out.field rfl rfl rfl rfl rfl HM2.out.waits rfl;refine⟨rfl,o,_,⟨⟨s,hM3.mono fun op a b c r h=>HLAW.out.same _ _ _ _ _ _ _ _ hr.vars hr.level hr.nodes h⟩,HL2.out.mono (by simp[World.setCell]),HC2.out.setCell (p:=⟨mb,3,none⟩) HM2.out.own trivial _,⟨hr.ok HK.out.store,Zpe HK.out.handles hr HF.out HK.out.store.dag.none0⟩,rfl,rfl,rfl,rfl,hr.nodes,hr.vars,hr.level,hr.room,hr.many⟩⟩
open Go.RowKit
def doW (gop:Nat) (lop:Array Value) (w:World):World:=(w.alloc (.cells #[.func (.func gop) #[] lop] 118)).alloc (.cells #[.int .i64 0] 83)
theorem Zt7:∀ args w,(callFunc 97 args).run Tryz.prog w=.ok (.enter 97 args) w:=enters_of Tryz.func97 (by kernel_rfl) rfl
theorem Yc3 (w:World) (g:Fn) (fs cs:Array Value):(binOp .eql 118 (.func g fs cs) .nilFunc).run Tryz.prog w=.ok (.bool false) w:=by
 have hd:Op.maxDepth=9999+1:=rfl;have h:(Op.equal 118 (.func g fs cs) .nilFunc).run Tryz.prog w=.ok false w:=by
  unfold Op.equal;rw[hd];unfold Op.equalIn;simp only[Sem.run_bind,run_underlying Tryz.underlying118,Result.andThen_ok];simp
 simp only[binOp];simp[h]
open Go.RowKit
def varF (v:Nat):BF:=fun ρ=>ρ v
theorem Zrc:∀ args w,(callFunc 70 args).run Tryz.prog w=.ok (.enter 70 args) w:=enters_of Tryz.func70 (by kernel_rfl) rfl
open Go.RowKit
theorem Ztq (w:World):(zeroValue 83).run Tryz.prog w=.ok (.int .i64 0) w:=by
 have s:(Tryz.prog.info? 83).map (fun i=>i.zero)=some (some (.int .i64 0)):=by kernel_rfl
 cases hi:Tryz.prog.info? 83 with
 | none=>rw[hi] at s;cases s
 | some i =>
   rw[hi] at s;simp only[Option.map_some,Option.some.injEq] at s;simp[zeroValue,typeInfo,hi,s]
theorem Zd4 {hs:List (Int×Nat)} (h:(hs.map Prod.fst).Nodup):((encH hs).map Prod.fst).Nodup:=by
 have:(encH hs).map Prod.fst=hs.map Prod.fst:=by simp[encH]
 rw[this];exact h
section
variable {F:Phi} {o:Own} {w:World} {mb:Nat} {m:ManD} {s:ManW}
theorem Zht (h:Zbz F o w mb m s) (hn:(m.hs.map Prod.fst).Nodup) {k:Int} {f:Nat} (hk:(k,f)∈m.hs) :
 (Instr.lookup 84 (.map (some s.hb)) (.int .i64 k) true).run Tryz.prog w=.ok (.tuple #[.int .i64 f,.bool true]) w:=by
 have h1:=h.map.lookup kI Tryz.underlying84 Ztq k true;have h2:getL (encH m.hs) k=some (.int .i64 (f:Nat)):=Zcg (Zd4 hn) (List.mem_map.2 ⟨(k,f),hk,rfl⟩);rw[h1,h2];rfl
theorem Yb9 (h:Zbz F o w mb m s) {k:Int} (hk:∀ f,(k,f)∉m.hs) :
 (Instr.lookup 84 (.map (some s.hb)) (.int .i64 k) true).run Tryz.prog w=.ok (.tuple #[.int .i64 0,.bool false]) w:=by
 have h1:=h.map.lookup kI Tryz.underlying84 Ztq k true
 have h2:getL (encH m.hs) k=none:=Zcu.2 (by
  rintro p hp rfl;obtain⟨q,hq,rfl⟩:=List.mem_map.1 hp;exact hk q.2 hq)
 rw[h1,h2];rfl
end
theorem Zcf {F:Phi} {o:Own} {w:World} {xb mb:Nat} {m:ManD} (h:Zd0 F o w mb m) (hx:Zer o w xb mb) (hn:(m.hs.map Prod.fst).Nodup) {k:Int} {f:Nat} (hk:(k,f)∈m.hs) :
 Calls Tryz.prog 56 #[.pointer (some ⟨xb,0,none⟩),.int .i64 k] w fun x w'=>x=.returned (.int .i64 f)/\w=w':=by
 obtain⟨s,h⟩:=h;obtain⟨c0,c1,c2,c3,c4,c5,f0⟩:=cells6 h.blk;have cx:=hx.cell;have hl:=Zht h hn hk;clear h hx hn hk
 go_enter Tryz.func56,Tryz.ntmps56
 go_wp2_with fail;go_ret;exact⟨rfl,rfl⟩
open Go.RowKit
end Go.Proofs.YtlgogjbkadckkaaGreat

namespace Go.Proofs.YtlgogjbkadckkaaGreat
open Go.RowKit
theorem Zke:∀ args w,(callFunc 54 args).run Tryz.prog w=.ok (.enter 54 args) w:=enters_of Tryz.func54 (by kernel_rfl) rfl
def box3 (a b c:Int) (w:World):World:=((w.alloc (.cells #[.int .i64 a] 3)).alloc (.cells #[.int .i64 b] 3)).alloc (.cells #[.int .i64 c] 3)
theorem Zvt (a b c:Int) (w:World):Below w.heap.size w (box3 a b c w)/\(box3 a b c w).cell? ⟨w.heap.size,0,none⟩=some (.int .i64 a)/\(box3 a b c w).cell? ⟨w.heap.size+1,0,none⟩=some (.int .i64 b)/\(box3 a b c w).cell? ⟨w.heap.size+2,0,none⟩=some (.int .i64 c):=by
 have h0:=heap_alloc_new w (.cells #[.int .i64 a] 3);have h1:=heap_alloc_new (w.alloc (.cells #[.int .i64 a] 3)) (.cells #[.int .i64 b] 3);have h2:=heap_alloc_new ((w.alloc (.cells #[.int .i64 a] 3)).alloc (.cells #[.int .i64 b] 3)) (.cells #[.int .i64 c] 3);rw[World.size_alloc] at h1;rw[World.size_alloc,World.size_alloc] at h2;have a0:(box3 a b c w).heap[w.heap.size]?=some (.cells #[.int .i64 a] 3 (0,0)):=(Go.heap_alloc_old _ _ (by simp;omega)).trans ((Go.heap_alloc_old _ _ (by simp)).trans h0);have a1:(box3 a b c w).heap[w.heap.size+1]?=some (.cells #[.int .i64 b] 3 (0,0)):=(Go.heap_alloc_old _ _ (by simp)).trans h1;have a2:(box3 a b c w).heap[w.heap.size+2]?=some (.cells #[.int .i64 c] 3 (0,0)):=h2;exact⟨((Zaf w _).alloc (by simp) _).alloc (by simp;omega) _,by rw[cell_of_row _ _ 0 _ _ _ a0];rfl,by rw[cell_of_row _ _ 0 _ _ _ a1];rfl,by rw[cell_of_row _ _ 0 _ _ _ a2];rfl⟩
open Go.RowKit
def man0 (n room:Nat):ManD:=⟨store0 n room,[(0,1),(1,0)],2,[],0⟩
theorem nodes0 (n room:Nat):Zaa (store0 n room)=fun _=>none:=by
 funext i;have ht:(pool0 room).tk i=false:=by
  unfold Zak.tk pool0;cases i with
  | zero=>rfl
  | succ i=>rfl
 unfold Zaa store0 Zak.get;simp[ht]
theorem Zio (n v:Nat) (h:v<n):(List.range n).getD v 0=v:=by simp[List.getD,h]
theorem Zx9 (n room:Nat) (hn:n<=64):Zaj (store0 n room) (fun _ _=>true):=by
 have hl:∀ v,v<n->levN (store0 n room) v=v:=fun v hv=>Zio n v hv
 have hlen:(store0 n room).vars.length=n:=by simp[store0]
 have hno:∀ i b,Zaa (store0 n room) i=some b->False:=fun i b h=>by rw[nodes0] at h;cases h
 refine⟨⟨fun _=>rfl,by rw[nodes0],fun i b h=>(hno i b h).elim,fun u v hu hv e=>?_,fun v hv=>?_,fun i b h=>(hno i b h).elim,fun i b h=>(hno i b h).elim,fun i b h=>(hno i b h).elim,fun i b h=>(hno i b h).elim,fun i b h=>(hno i b h).elim,fun i b h=>(hno i b h).elim,fun i j b h=>(hno i b h).elim,fun i b h=>(hno i b h).elim⟩,
  ?_,fun v hv lo hi id=>⟨fun h=>absurd (show (none:Option Nat)=some id from h) (by simp),fun h=>(hno _ _ h).elim⟩,by simp[store0],by rw[hlen];exact hn,fun v hv=>?_,fun i hi=>?_⟩
 ·
  rw[hlen] at hu hv;rw[hl u hu,hl v hv] at e;exact e
 ·
  rw[hlen] at hv ⊢;rw[hl v hv];exact hv
 ·
  refine⟨⟨fun i b h=>(hno i b h).elim,fun i b h=>(hno i b h).elim⟩,?_,fun i b h=>(hno i b h).elim⟩;have h1:Zd2 (store0 n room).pool.at_.length (Zaa (store0 n room)) (Zas (store0 n room))=Zar (store0 n room).pool.at_.length (dead1 (Zaa (store0 n room)) (Zas (store0 n room))):=rfl;rw[h1,nodes0];have h2:dead1 (fun _=>none) (Zas (store0 n room)) 0=0:=rfl
  show (0:Int)=Zar 1 _
  simp[Zar,h2]
 ·
  rw[hlen] at hv;rw[hl v hv];exact Zio n v hv
 ·
  rw[hlen] at hi ⊢;have e:(store0 n room).vars.getD i 0=i:=Zio n i hi;rw[e];exact⟨hi,hl i hi⟩
theorem Zw8 (n room:Nat) (hn:n<=64):Zvd (man0 n room) (fun _ _=>true) :=
 ⟨Zx9 n room hn,⟨by simp[man0],by simp[man0],by simp[man0],by simp[man0],by simp[man0],fun p hp=>by simp[man0] at hp;rcases hp with rfl|rfl<;>exact .inl rfl,by simp[man0],fun i b h=>by rw[show (man0 n room).d=store0 n room from rfl,nodes0] at h;cases h⟩⟩
def Zhq:Law:=fun d V op a b c r=>op=1->IteP d V a b c r
theorem Zf6:Zc8 Zhq:=⟨fun d V a b c r=>⟨fun h=>h rfl,fun h _=>h⟩,fun d V d' V' op a b c r hk hk' x h e=>(h e).ext x hk hk',fun d d' V op a b c r h1 h2 h3 h e=>by
 have q:=h e;have hl:levN d'=levN d:=by funext v;unfold levN;rw[h2]
 have hm:minL d' a b c=minL d a b c:=by unfold minL;rw[h1,hl,h3]
 exact⟨by rw[h3];exact q.okA,by rw[h3];exact q.okB,by rw[h3];exact q.okC,by rw[h3];exact q.okR,q.val,by rw[hm,h1,hl,h3];exact q.lev⟩⟩
theorem Zxh {F:Phi} (o:Own) (n room:Nat) (w:World) (hlt:Zai o w) (hn:n<=64) (h1:1<=room) (h2:room<=1048576) :
 Calls Tryz.prog 7 #[.int .i64 n,.int .i64 room] w fun x w'=>∃ mb o',x=.returned (.tuple #[.pointer (some ⟨mb,0,none⟩),.int .i64 0])/\Zd0 F o' w' mb (man0 n room)/\Chg (fun _=>True) o o' w w'/\Zai o' w'/\w.heap.size<=mb:=by
 have HS:=Hd (Zxi o n room w hlt hn h1 h2);clear hlt hn h1 h2
 go_enter Tryz.func7,Tryz.ntmps7
 go_wp2_with fail;refine HS.out.mono ?_;rintro x w1 ⟨sb,o1,rfl,hst,hc1,hl1,hsb⟩;have HST:=Hd hst;have HC1:=Hd hc1;have HL1:=Hd hl1;clear hst hc1 hl1;have hmk:=Zb2 (P:=Tryz.prog) w1 84;obtain⟨wA,hrA,hmA,hgA⟩:=(Zd7 w1 (Value.int .i64)).update (P:=Tryz.prog) kI Tryz.underlying84 0 (.int .i64 1);obtain⟨wB,hrB,hmB,hgB⟩:=hmA.update (P:=Tryz.prog) kI Tryz.underlying84 1 (.int .i64 0);have hl0:=HL1.out.allocR (.map #[] 0) .handles;have hcB:Chg (fun _=>True) o (Zcs o1 w1.heap.size .handles) w wB :=
  ((HC1.out.any.allocR (r:=.handles) HL1.out (.map #[] 0) trivial).grown hgA (fun g hg=>by cases hg;exact⟨_,Za5 _ _ _,trivial⟩)).grown hgB (fun g hg=>by cases hg;exact⟨_,Za5 _ _ _,trivial⟩)
 have hlB:Zai (Zcs o1 w1.heap.size .handles) wB:=hl0.mono (Nat.le_trans hgA.size hgB.size);have hne:∀ g r,o1 g=some r->g≠w1.heap.size:=fun g r hg e=>by have:=HL1.out g r hg;omega
 have hkeep:∀ g r,o1 g=some r->wB.heap[g]?=w1.heap[g]?:=fun g r hg=>by
  have a0:=HL1.out g r hg;have a1:g<(w1.alloc (.map #[] 0)).heap.size:=by simp;omega
  rw[hgB.block g (Nat.lt_of_lt_of_le a1 hgA.size) (by intro e;cases e;exact hne _ _ hg rfl),hgA.block g a1 (by intro e;cases e;exact hne _ _ hg rfl)];exact Go.heap_alloc_old _ _ a0
 have HSB:=Hd (HST.out.keepR (o':=Zcs o1 w1.heap.size .handles) (fun g r hg _=>hkeep g r hg) (fun g r hg=>Zcv HL1.out (Nat.le_refl _) hg));have HMB:Hid (Zaz wB w1.heap.size (Value.int .i64) [(0,.int .i64 1),(1,.int .i64 0)]):=Hd hmB;have HCB:=Hd hcB;have HLB:=Hd hlB;have HME:=Hd (Zzm (Zcs o1 w1.heap.size .handles) F wB hlB);have hgs:w1.heap.size<wB.heap.size:=hmB.lt;clear hmA hgA hmB hgB hl0 hcB hlB hne hkeep;go_wp2_with fail;refine HME.out.mono ?_;rintro x w2 ⟨me,o2,rfl,hme,hc2,hl2,hge⟩;have hst2:=HSB.out.keepR (o':=o2) (w':=w2) (fun g r hg hr=>hc2.same HLB.out hg (by rintro rfl;simp[Zam,Zfb] at hr)) hc2.ext;have hmap2:=HMB.out.keepB (hc2.same HLB.out (Za5 o1 w1.heap.size .handles) (by simp));have hoh:=hc2.ext _ _ (Za5 o1 w1.heap.size .handles);have HF:Hid (∀ w3,w3=w2.alloc (.cells #[.pointer (some ⟨sb,0,none⟩),.pointer (some ⟨me,0,none⟩),.map (some w1.heap.size),.int .i64 2,.slice none 0 0,.int .i64 0] 88)->Zd0 F (Zcs o2 w2.heap.size .man) w3 w2.heap.size (man0 n room)/\Chg (fun _=>True) o (Zcs o2 w2.heap.size .man) w w3/\Zai (Zcs o2 w2.heap.size .man) w3/\w.heap.size<=w2.heap.size):=by
  refine Hd ?_;rintro w3 rfl;have hk3:∀ g r,o2 g=some r->(w2.alloc (.cells #[.pointer (some ⟨sb,0,none⟩),.pointer (some ⟨me,0,none⟩),.map (some w1.heap.size),.int .i64 2,.slice none 0 0,.int .i64 0] 88)).heap[g]?=w2.heap[g]?:=fun g r hg=>Go.heap_alloc_old _ _ (hl2 g r hg)
  have ho3:∀ g r,o2 g=some r->Zcs o2 w2.heap.size .man g=some r:=fun g r hg=>Zcv hl2 (Nat.le_refl _) hg
  exact⟨⟨⟨sb,me,w1.heap.size,.slice none 0 0⟩,Za5 _ _ _,heap_alloc_new w2 _,hst2.keepR (fun g r hg _=>hk3 g r hg) ho3,hme.keep (fun g r hg _=>hk3 g r hg) ho3,ho3 _ _ hoh,hmap2.keepB (hk3 _ _ hoh),Zcq.nil _ _⟩,
   (HCB.out.trans hc2.any).allocR hl2 _ trivial,hl2.allocR _ _,(HCB.out.trans hc2.any).size⟩
 clear hst2 hmap2 hoh hme hc2 hl2;go_wp2_with fail
 go_ret2
 obtain⟨a1,a2,a3,a4⟩:=HF.out _ rfl;exact⟨_,_,rfl,a1,a2,a3,a4⟩
open Go.RowKit
section
variable {F:Phi} {o:Own} {w:World} {sb mb:Nat} {d:Zac} {m:ManD}
theorem Zod (h:Zaq o w sb d):Calls Tryz.prog 81 #[.pointer (some ⟨sb,0,none⟩)] w fun x w'=>x=.returned (.int .i64 d.vars.length)/\w=w':=by
 obtain⟨s,h⟩:=h;obtain⟨c0,c1,c2,c3,c4,f0⟩:=cells5 h.blk;obtain⟨d0,d1,_⟩:=cells2 h.lev;obtain⟨a,cap,hv,_⟩:=h.vars.slice;rw[hv] at d0;clear h hv
 go_enter Tryz.func81,Tryz.ntmps81
 go_wp2_with fail;go_ret;exact⟨rfl,rfl⟩
theorem Zdm (h:Zd0 F o w mb m):Calls Tryz.prog 42 #[.pointer (some ⟨mb,0,none⟩)] w fun x w'=>x=.returned (.int .i64 m.d.vars.length)/\w=w':=by
 obtain⟨s,h⟩:=h;obtain⟨c0,c1,c2,c3,c4,c5,f0⟩:=cells6 h.blk;have HP:=Hd (Zod h.store);clear h
 go_enter Tryz.func42,Tryz.ntmps42
 go_wp2_with fail;refine HP.out.mono ?_;rintro x w' ⟨rfl,rfl⟩;go_wp2_with fail;go_ret;exact⟨rfl,rfl⟩
end
open Go.RowKit
structure Ybb (w:World) (a:Option Addr) (bs:List Bool):Prop where
 len:bs.length<=1000000
 cells:∀ k,k<bs.length->∃ b off,a=some ⟨b,off,none⟩/\w.cell? ⟨b,off+k,none⟩=some (.bool (bs.getD k false))
def Zeu (bs:List Bool):Nat->Bool:=fun v=>bs.getD v false
open Go.RowKit
end Go.Proofs.YtlgogjbkadckkaaGreat

namespace Go.Proofs.YtlgogjbkadckkaaGreat
open Go.RowKit
theorem Zuf {o:Own} {w:World} {r:Role} {a:Option Addr} {cap:Nat} {xs:List Nat} (h:RowR o w r 3 1 (.slice a xs.length cap) xs.length (xs.map nat64)) (hl:xs.length<=1000000):Zay w a (xs.map Int.ofNat):=by
 refine⟨by simp;omega,fun k hk=>?_⟩;simp only[List.length_map] at hk;obtain⟨g,cap',he,_⟩:=h.shape (by omega);cases he;refine⟨g,0,rfl,?_⟩;have h1:=h.cell k (by simpa using hk);rw[Nat.zero_add,h1,Zb0 (by simpa using hk)];simp[nat64,hk]
theorem Zlr {o:Own} {w:World} {sb:Nat} {d:Zac} (h:Zaq o w sb d) (hlt:Zai o w) (hl:d.vars.length<=64) :
 Calls Tryz.prog 105 #[.pointer (some ⟨sb,0,none⟩)] w fun x w'=>∃ v,x=.returned v/\OwnI w' w.heap.size v (d.vars.map Int.ofNat)/\Below w.heap.size w w':=by
 obtain⟨s,h⟩:=h;obtain⟨c0,c1,c2,c3,c4,f0⟩:=cells5 h.blk;obtain⟨d0,d1,_⟩:=cells2 h.lev;have lsb:sb<w.heap.size:=Zab c0;have llb:s.lb<w.heap.size:=Zab d0;obtain⟨a,cap,hv,_,_,hnil,_⟩:=h.vars.slice;have hrow:=h.vars;rw[hv] at d0 hrow;have HI:=Hd (Zuf hrow (by omega));have HN:=Hd hnil;have e:d.vars.length=(d.vars.map Int.ofNat).length:=by simp
 rw[e] at d0;have hl':(d.vars.map Int.ofNat).length<=64:=by rw[<- e];exact hl
 generalize d.vars.map Int.ofNat=zs at *
 clear h hv hrow e hnil hl
 go_enter Tryz.func105,Tryz.ntmps105
 go_wp2_with (at_builtin;refine Zfo rfl _ _ rfl w.heap.size w _ [] zs _ _ rfl rfl (Zjr w w.heap.size (Nat.le_refl _)) (HI.out.below (Zaf _ _)) (by simp;omega) (by simp) (Zaf _ _) HN.out ?_;intro v1 w1 hown1 hbel1 hsz1 hkb1);go_ret;exact⟨_,rfl,by simpa using hown1,hbel1⟩
open Go.RowKit
section
variable {n room:Nat} {w0 w:World} {mb:Nat} {fs:List (Int×BF)} {many:Nat}
end
end Go.Proofs.YtlgogjbkadckkaaGreat

namespace Go.Proofs.YtlgogjbkadckkaaGreat
open Go.RowKit Go.Shelf
attribute [local go_sem] Oper.semAt_some
def Zdz (p:Zak) (k:Nat):List Nat:=(List.range k).filter p.tk
def Zdj (p:Zak):List Nat:=Zdz p p.at_.length
theorem Ziu {p:Zak} {k:Nat} (h:p.tk k=true):Zdz p (k+1)=Zdz p k++[k]:=by
 unfold Zdz;rw[List.range_succ,List.filter_append];simp[h]
theorem Zqo {p:Zak} {k:Nat} (h:p.tk k=false):Zdz p (k+1)=Zdz p k:=by
 unfold Zdz;rw[List.range_succ,List.filter_append];simp[h]
theorem Zu1 (p:Zak) {k m:Nat}:k<=m->∃ suf,Zdz p k++suf=Zdz p m:=by
 induction m with
 | zero => intro h; obtain rfl : k = 0 := by omega
           exact⟨[],by simp⟩
 | succ m ih =>
   intro h
   by_cases e:k=m+1
   ·
    subst e;exact⟨[],by simp⟩
   ·
    obtain⟨suf,hs⟩:=ih (by omega);cases h2:p.tk m with
    | false=>exact⟨suf,by rw[Zqo h2];exact hs⟩
    | true=>exact⟨suf++[m],by rw[Ziu h2,<- hs,List.append_assoc]⟩
theorem Zu2 {p:Zak} {k:Nat} (h:p.tk k=true) (hk:k<p.at_.length):∃ suf,Zdz p k++k::suf=Zdj p:=by
 obtain⟨suf,hs⟩:=Zu1 p (k:=k+1) (m:=p.at_.length) (by omega);rw[Ziu h,List.append_assoc] at hs;exact⟨suf,hs⟩
theorem Zmd {p:Zak} {pre suf:List Nat} {x:Nat} (h:pre++x::suf=Zdj p):p.tk x=true:=by
 have:x∈Zdj p:=by rw[<- h];simp
 exact(List.mem_filter.1 this).2
structure ItS (n₀:Nat) (o:Own) (w0:World) (pb:Nat) (p:Zak) (Bp:Nat) (M0 M:Nat->Prop) (W0 W:World):Prop where
 low:Below n₀ w0 W
 box:W.cell? ⟨Bp,0,none⟩=some (.pointer (some ⟨pb,0,none⟩))
 wr:Wr (fun k=>n₀<=k) W0 W
 sub:∀ k,M k->M0 k\/W0.heap.size<=k
 nb:¬ M Bp
theorem ItS.go {n₀:Nat} {o:Own} {w0:World} {pb:Nat} {p:Zak} {Bp:Nat} {M0 M M':Nat->Prop} {W0 W W':World} (h:ItS n₀ o w0 pb p Bp M0 M W0 W) (hn:n₀<=W0.heap.size) (hge:∀ k,M k->n₀<=k) (hw:Wr M W W')
 (hM:∀ k,M' k->M k\/W.heap.size<=k):ItS n₀ o w0 pb p Bp M0 M' W0 W':=by
 have hs:=h.wr.size;have hb:=Zab h.box;refine⟨h.low.trans (hw.below hge (by omega)),?_,h.wr.trans hw (fun _ _ h=>h) (fun k _ hk=>hge k hk),fun k hk=>?_,fun e=>?_⟩
 ·
  exact(World.cell?_of_block (w:=W) (a:=⟨Bp,0,none⟩) (hw.keep Bp hb h.nb)).trans h.box
 ·
  rcases hM k hk with h1|h1
  ·
   exact h.sub k h1
  ·
   right;omega
 ·
  rcases hM Bp e with h1|h1
  ·
   exact h.nb h1
  ·
   have hb':Bp<W.heap.size:=hb;omega
theorem Zud (F:Fence) (n:Nat) (hF:F.fn 162) (hro:F.round=none) (hn:1<=n) (Bp n₀ pb:Nat) {o:Own} {w0:World} {p:Zak} (hp:Zao o w0 pb p) (hlt:Zai o w0) (h0:w0.heap.size<=n₀) (w:World)
 (hw:Below n₀ w0 w) (hn0:n₀<=w.heap.size) (hBp:w.cell? ⟨Bp,0,none⟩=some (.pointer (some ⟨pb,0,none⟩))) :
 Gives F n 0 Tryz.prog 162 #[.pointer (some ⟨Bp,0,none⟩)] (fun i:Nat=>#[.int .i64 i]) n₀ (· = Bp) (Zdj p) w:=by
 intro l J M W hOw hMi hWr hBM hY hJ;have hb0:=Zab hBp;have hS0:ItS n₀ o w0 pb p Bp M M W W:=⟨hw.trans (hWr.below (fun k h=>h.1) hn0),(World.cell?_of_block (w:=w) (a:=⟨Bp,0,none⟩) (hWr.keep Bp hb0 (fun h=>h.2 rfl))).trans hBp,Wr.refl _ _,fun k h=>.inl h,hBM Bp rfl⟩;have hnW:n₀<=W.heap.size:=Nat.le_trans hn0 hWr.size;have HP:∀ W',Below n₀ w0 W'->Zao o W' pb p:=fun W' hb=>hp.below (hb.mono h0) hlt
 obtain⟨vs,vt,vf,c0,c1,c2,c3,c4,hs,ht,_⟩:=(HP W hS0.low).cells;have hbx:=hS0.box;have hpos:=hp.pos;obtain⟨gs,cs,rfl,_⟩:=hs.shape hpos;have hlen:=hp.len;have htop:=hp.top;have hroom:=hp.room;have HPH:=Hd HP;have HYH:=Hd hY;have HSH:=Hd hS0;have HOW:=Hd hOw;clear HP hY hs ht hp hlt h0 hS0 hOw hMi hWr hBM hw hn0 hBp hb0;refine callsIn_of_wp Tryz.func162 rfl hF ?_ hro;simp only[Tryz.ntmps162,List.size_toArray,List.length_cons,List.length_nil,Nat.reduceAdd,Nat.reduceSub,Array.replicate_succ,Array.replicate_zero,List.push_toArray,List.append_toArray,List.nil_append,List.cons_append]
 gi_wp2
 gi_loopw [11] (fun i wr=>∃ (k:Nat) (M1:Nat->Prop),k<=p.at_.length/\i=.int .i64 k/\J (Zdz p k) M1 wr/\ItS n₀ o w0 pb p Bp M M1 W wr) (fun i _=>p.at_.length-(intOf i).toNat)
 case atStart=>exact⟨0,M,Nat.zero_le _,rfl,hJ,HSH.out⟩
 case round =>
  obtain⟨k,M1,hk,rfl,hJs,hS⟩:=hrel
  by_cases hlt:k<p.at_.length
  ·
   obtain⟨vs,vt,vf,d0,d1,d2,d3,d4,hs,ht,_⟩:=(HPH.out wr hS.low).cells;have hbx:=hS.box;obtain⟨gt,ct,rfl,_⟩:=ht.shape (by rw[hlen];exact hpos);have hcf:=Zao.flag ht (k:=k) (by omega);rw[hlen] at d2;have hlt':(k:Int)<p.at_.length:=by omega
   have HS:=Hd hS;cases hB:p.tk k with
   | false =>
     rw[hB] at hcf;have HJS:Hid (J (Zdz p (k+1)) M1 wr):=by show J _ _ _;rw[Zqo hB];exact hJs
     clear hB hs ht hS hJs hJ
     gi_wp2
     refine⟨fun _ h=>(by cases h),?_⟩
     gi_wp2
     go_roundw
     case rel=>exact⟨k+1,M1,by omega,by simp,HJS.out,HS.out⟩
     case measure=>simp[intOf];omega
   | true =>
     rw[hB] at hcf;have HGE:=Hd (fun q (hq:M1 q)=>(HOW.out _ _ _ hJs q hq).1);obtain⟨fn,tmps,assign,body,hy,hR⟩:=HYH.out _ k M1 wr hJs (Zu2 hB hlt);have HU:=Hd (Ziu hB);have HR:=Hd hR;clear hs ht hS hJs hR hB hJ
     gi_wp2
     refine HR.out.mono ?_;rintro e W3 ⟨rfl,M3,hJ3,hw3,hM3⟩;have HJ3:=Hd hJ3;have HK3:=Hd (HS.out.go hnW HGE.out hw3 hM3);clear hJ3 hw3 hM3
     gi_wp2
     go_roundw
     case rel=>exact⟨k+1,M3,by omega,by simp,by rw[HU.out];exact HJ3.out,HK3.out⟩
     case measure=>simp[intOf];omega
  ·
   obtain rfl:k=p.at_.length:=by omega
   have HJS:=Hd hJs;have HS:=Hd hS;clear hJs hS hJ
   gi_wp2
   go_end0;exact⟨⟨_,rfl⟩,M1,HJS.out,HS.out.wr,HS.out.sub⟩
theorem Yc5 (F:Fence) (n:Nat) (hF:F.fn 132) (hro:F.round=none) (pb:Nat) (w:World) :
 CallsIn F n Tryz.prog 132 #[.pointer (some ⟨pb,0,none⟩)] w fun e w'=>e=.returned (.func (.func 162) #[] #[.pointer (some ⟨w.heap.size,0,none⟩)])/\w'=w.alloc (.cells #[.pointer (some ⟨pb,0,none⟩)] 134):=by
 refine callsIn_of_wp Tryz.func132 rfl hF ?_ hro;simp only[Tryz.ntmps132,List.size_toArray,List.length_cons,List.length_nil,Nat.reduceAdd,Nat.reduceSub,Array.replicate_succ,Array.replicate_zero,List.push_toArray,List.append_toArray,List.nil_append,List.cons_append]
 gi_wp2
 go_ret;exact⟨rfl,rfl⟩
theorem Ybt (F:Fence) (n:Nat) (hF:F.fn 104) (hro:F.round=none) (pb:Nat) (w:World) :
 CallsIn F n Tryz.prog 104 #[.pointer (some ⟨pb,0,none⟩)] w fun e w'=>e=.returned (.func (.func 131) #[] #[.pointer (some ⟨w.heap.size,0,none⟩)])/\w'=w.alloc (.cells #[.pointer (some ⟨pb,0,none⟩)] 134):=by
 refine callsIn_of_wp Tryz.func104 rfl hF ?_ hro;simp only[Tryz.ntmps104,List.size_toArray,List.length_cons,List.length_nil,Nat.reduceAdd,Nat.reduceSub,Array.replicate_succ,Array.replicate_zero,List.push_toArray,List.append_toArray,List.nil_append,List.cons_append]
 gi_wp2
 go_ret;exact⟨rfl,rfl⟩
end Go.Proofs.YtlgogjbkadckkaaGreat

namespace Go.Proofs.YtlgogjbkadckkaaGreat
open Go.RowKit Go.Shelf
attribute [local go_sem] Oper.semAt_some
structure EaS (n₀:Nat) (o:Own) (w0:World) (pb:Nat) (p:Zak) (Bp By l:Nat) (M0 M:Nat->Prop) (W0 W:World):Prop where
 it:ItS n₀ o w0 pb p Bp M0 M W0 W
 boxy:W.cell? ⟨By,0,none⟩=some (.func (.yield l) #[] #[])
 ny:¬ M By
 ge:∀ k,M k->n₀<=k
theorem Zm1 {M:Nat->Prop} {W W':World} {b k:Nat} {v:Value} (h:Wr M W W') (hc:W.cell? ⟨b,k,none⟩=some v) (hn:¬ M b):W'.cell? ⟨b,k,none⟩=some v :=
 (World.cell?_of_block (w:=W) (a:=⟨b,k,none⟩) (h.keep b (Zab hc) hn)).trans hc
theorem EaS.go {n₀:Nat} {o:Own} {w0:World} {pb:Nat} {p:Zak} {Bp By l:Nat} {M0 M M':Nat->Prop} {W0 W W':World} (h:EaS n₀ o w0 pb p Bp By l M0 M W0 W) (hn:n₀<=W0.heap.size) (hw:Wr M W W')
 (hM:∀ k,M' k->M k\/W.heap.size<=k):EaS n₀ o w0 pb p Bp By l M0 M' W0 W':=by
 have hs:=h.it.wr.size;have hb:By<W.heap.size:=Zab h.boxy;refine⟨h.it.go hn h.ge hw hM,Zm1 hw h.boxy h.ny,fun e=>?_,fun k hk=>?_⟩
 ·
  rcases hM By e with h1|h1
  ·
   exact h.ny h1
  ·
   omega
 ·
  rcases hM k hk with h1|h1
  ·
   exact h.ge k h1
  ·
   omega
theorem Zq9 (F:Fence) (n:Nat) (hF1:F.fn 131) (hF2:F.fn 132) (hF3:F.fn 162) (hro:F.round=none) (hn:4<=n) (Bp n₀ pb:Nat) {o:Own} {w0:World} {p:Zak} (hp:Zao o w0 pb p) (hlt:Zai o w0) (h0:w0.heap.size<=n₀) (w:World)
 (hw:Below n₀ w0 w) (hn0:n₀<=w.heap.size) (hBn:n₀<=Bp) (hBp:w.cell? ⟨Bp,0,none⟩=some (.pointer (some ⟨pb,0,none⟩))) :
 Gives F n 2 Tryz.prog 131 #[.pointer (some ⟨Bp,0,none⟩)] (fun i:Nat=>#[Zau (p.nd i)]) n₀ (· = Bp) (Zdj p) w:=by
 intro l J M W hOw hMi hWr hBM hY hJ;have hb0:Bp<w.heap.size:=Zab hBp;have hBW:Bp<W.heap.size:=Nat.lt_of_lt_of_le hb0 hWr.size;have hnW:n₀<=W.heap.size:=Nat.le_trans hn0 hWr.size;have hbW:W.cell? ⟨Bp,0,none⟩=some (.pointer (some ⟨pb,0,none⟩)):=Zm1 hWr hBp (fun h=>h.2 rfl);have hlW:Below n₀ w0 W:=hw.trans (hWr.below (fun k h=>h.1) hn0);obtain⟨V,hV⟩:∃ V,V=(W.alloc (.cells #[.func (.yield l) #[] #[]] 119)).alloc (.cells #[.pointer (some ⟨pb,0,none⟩)] 134):=⟨_,rfl⟩;have hWV:∀ N,Wr N W V:=fun N=>by rw[hV];exact((Wr.refl N W).alloc _).alloc _
 have hJV:J [] M V:=hMi _ _ _ _ hJ (hWV _);have hMlt:=hOw _ _ _ hJ;have hyV:V.cell? ⟨W.heap.size,0,none⟩=some (.func (.yield l) #[] #[]):=by rw[hV];simp
 have hpV:V.cell? ⟨W.heap.size+1,0,none⟩=some (.pointer (some ⟨pb,0,none⟩)):=by rw[hV];simp
 have hBV:V.cell? ⟨Bp,0,none⟩=some (.pointer (some ⟨pb,0,none⟩)):=Zm1 (hWV (fun _=>False)) hbW (fun h=>h);have hlowV:Below n₀ w0 V:=hlW.trans ((hWV (fun k=>n₀<=k)).below (fun _ h=>h) hnW);have hVs:V.heap.size=W.heap.size+2:=by rw[hV];simp
 have hEa:EaS n₀ o w0 pb p Bp W.heap.size l M M V V:=⟨⟨hlowV,hBV,Wr.refl _ _,fun k h=>.inl h,hBM Bp rfl⟩,hyV,fun e=>by have:=(hMlt _ e).2;omega,fun k h=>(hMlt k h).1⟩;have HP:∀ W',Below n₀ w0 W'->Zao o W' pb p:=fun W' hb=>hp.below (hb.mono h0) hlt
 have HG:=Hd (Zud F (n-1) hF3 hro (by omega) (W.heap.size+1) n₀ pb hp hlt h0 V hlowV (by omega) hpV);have HPH:=Hd HP;have HYH:=Hd hY;have HEA:=Hd hEa;have HOW:=Hd hOw;have HMlt:=Hd hMlt;have HMI:=Hd hMi;have HJV:=Hd hJV;have HWV:=Hd hWV;have hlen:=hp.len;have hpos:=hp.pos;have htop:=hp.top;have hroom:=hp.room;have h1:1<=n:=by omega
 have hbA:(W.alloc (.cells #[.func (.yield l) #[] #[]] 119)).cell? ⟨Bp,0,none⟩=some (.pointer (some ⟨pb,0,none⟩)):=Zm1 ((Wr.refl (fun _=>False) W).alloc _) hbW (fun h=>h);refine callsIn_of_wp_marks Tryz.func131 rfl hF1 ?_ hro;simp only[Tryz.ntmps131,List.size_toArray,List.length_cons,List.length_nil,Nat.reduceAdd,Nat.reduceSub,Array.replicate_succ,Array.replicate_zero,List.push_toArray,List.append_toArray,List.nil_append,List.cons_append];clear hOw hMi hWr hBM hY hJ hJV hMlt hyV hpV hBV hlowV hEa HP hp hlt h0 hw hBp hlW hWV hVs
 gi_wp2_with (gi_at_call 132;refine(Yc5 F (n-1) hF2 hro _ _).mono ?_;rintro e w' ⟨rfl,rfl⟩)
 rw[<- hV];have hVs:V.heap.size=W.heap.size+2:=by rw[hV];simp
 clear hV;have hmx:Tryz.prog.follows .mixedOrders=true:=by kernel_rfl
 refine Ztp hro h1 (gf:=162) (lb:=#[.pointer (some ⟨W.heap.size+1,0,none⟩)]) rfl hF3 (enters_of Tryz.func162 (by kernel_rfl) rfl) HG.out
  (by omega) (by rintro k rfl;omega) (fun x=>rfl)
  (fun pre N V'=>∃ M1,(∀ k,N k↔M1 k\/k=W.heap.size\/k=Bp)/\J pre M1 V'/\EaS n₀ o w0 pb p Bp W.heap.size l M M1 V V')
  ?_ ?_ (fun k=>M k\/k=W.heap.size\/k=Bp) ?_ ⟨M,fun k=>Iff.rfl,HJV.out,HEA.out⟩
  (fun x a' _ _=>a'={
   tmps :=
    #[Value.func (Fn.yield l) #[] #[],Value.pointer (some { block:=Bp,off:=0 }),
     Value.pointer (some { block:=W.heap.size,off:=0 }),Value.int IntKind.i64 ↑x,
     Value.pointer (some { block:=pb,off:=0 }),
     Value.func (Fn.func 162) #[] #[Value.pointer (some { block:=W.heap.size+1,off:=0 })],
     Value.int IntKind.i64 ↑x,undef,undef,undef,undef,undef,undef,undef,undef,undef,undef],
   defers:=[] }) ?_ ?_ ?_ ?_
 ·
  rintro pre N V' ⟨M1,hN,hj,hE⟩ k hk;rcases(hN k).1 hk with h|h|h
  ·
   exact HOW.out _ _ _ hj k h
  ·
   subst h;exact⟨hnW,Zab hE.boxy⟩
  ·
   subst h;exact⟨hBn,Zab hE.it.box⟩
 ·
  rintro pre N V' V'' ⟨M1,hN,hj,hE⟩ hw
  have hkeep:∀ k,k<V'.heap.size->(k<n₀\/N k)->V''.heap[k]?=V'.heap[k]?:=fun k hk hn=>hw.keep k hk (fun⟨a,b⟩=>by
   rcases hn with h|h
   ·
    omega
   ·
    exact b h)
  refine⟨M1,hN,HMI.out _ _ _ _ hj (hw.mono fun k ⟨a,b⟩=>⟨a,fun h=>b ((hN k).2 (.inl h))⟩),⟨⟨?_,?_,?_,hE.it.sub,hE.it.nb⟩,?_,hE.ny,hE.ge⟩⟩
  ·
   exact hE.it.low.trans (hw.below (fun k h=>h.1) (by have:=hE.it.wr.size;omega))
  ·
   exact(World.cell?_of_block (w:=V') (a:=⟨Bp,0,none⟩) (hkeep _ (Zab hE.it.box) (.inr ((hN _).2 (.inr (.inr rfl)))))).trans hE.it.box
  ·
   exact hE.it.wr.trans hw (fun _ _ h=>h) (fun k _ h=>h.1)
  ·
   exact(World.cell?_of_block (w:=V') (a:=⟨W.heap.size,0,none⟩) (hkeep _ (Zab hE.boxy) (.inr ((hN _).2 (.inr (.inl rfl)))))).trans hE.boxy
 ·
  rintro k rfl h;have hM1:W.heap.size+1<W.heap.size\/W.heap.size+1=W.heap.size\/W.heap.size+1=Bp:=by
   rcases h with h|h
   ·
    left;exact(HMlt.out _ h).2
   ·
    right;exact h
  omega
 ·
  intro x a' W' W1 W2 l' _ h _;exact h
 ·
  intro l' pre x N V' K hI hK
  gi_wp2
  exact hK _ _ (Wr.refl _ _) rfl
 ·
  rintro l' pre x a' N W0 W1 ⟨M1,hN,hj,hE⟩ rfl hs0 hs1 hsuf;obtain⟨suf,hsuf⟩:=hsuf;have hx:p.tk x=true:=Zmd hsuf;obtain⟨vs,vt,vf,d0,d1,d2,d3,d4,hs,ht,_⟩:=(HPH.out W1 hE.it.low).cells;have hbx:=hE.it.box;have hby:=hE.boxy;obtain⟨gs,cs,rfl,hsl⟩:=hs.shape hpos;have hxl:=((HPH.out W1 hE.it.low).tk_lt hx).2;have hcn:=Zao.node hs (k:=x) hxl;have hxi:(x:Int)<p.at_.length:=by omega
  obtain⟨fn,tmps,assign,body,hy,hR⟩:=HYH.out _ x M1 W1.drew (HMI.out _ _ _ _ hj ((Wr.refl _ W1).drew)) ⟨suf,hsuf⟩;simp only[Zau] at hy;have HR:=Hd hR;have HE:=Hd hE;have HN:=Hd hN;clear hs hE hj hR hN hsuf hsl
  gi_wp2
  gi_region_with_o (refine⟨fun _=>by omega,HR.out.mono ?_⟩;rintro e W3 ⟨rfl,M3,hJ3,hw3,hM3⟩)
  all_goals gi_wp2
  all_goals exact⟨fun k=>M3 k\/k=W.heap.size\/k=Bp,⟨M3,fun k=>Iff.rfl,hJ3,HE.out.go (by omega) (Wr.trans ((Wr.refl M1 W1).drew) hw3 (fun _ _ h=>h) (fun _ _ h=>h)) hM3⟩,
   Wr.trans ((Wr.refl M1 W1).drew) hw3 (fun k _ h=>.inl ((HN.out k).2 (.inl h))) (fun k _ h=>.inl ((HN.out k).2 (.inl h))),
   fun k hk=>by
    rcases hk with hk|hk
    ·
     rcases hM3 k hk with h|h
     ·
      exact .inl ((HN.out k).2 (.inl h))
     ·
      right;have:W1.heap.size<=k:=h;omega
    ·
     exact .inl ((HN.out k).2 (.inr hk))⟩
 ·
  rintro D N W2 hD1 hD2 ⟨M1,hN,hj,hE⟩ hN2 hw2 hD3
  gi_wp2
  refine⟨by simp,.inl ⟨_,_,rfl,run_takeDeferred hD3,?_⟩⟩;have hDb:n₀<=D:=by omega
  refine⟨_,results_none rfl _ _ _,⟨_,rfl⟩,M1,?_,?_,?_⟩
  ·
   exact HMI.out _ _ _ _ hj ((Wr.refl _ _).putObj (.inl ⟨hDb,fun h=>hD2 ((hN D).2 (.inl h))⟩) _)
  ·
   exact((HWV.out (fun k=>n₀<=k)).trans hw2 (fun _ _ h=>h) (fun _ _ h=>h)).putObj (.inl hDb) _
  ·
   intro k hk;rcases hE.it.sub k hk with h|h
   ·
    exact .inl h
   ·
    right;omega
open Go.RowKit
def Zcc (d:Zac):List Nat:=(Zdj d.pool).filter (fun i=>decide (Zas d i=0))
theorem Zqn (p:Zak):(Zdj p).Nodup:=(List.nodup_range).filter _
theorem Zq8 (d:Zac):(Zcc d).Nodup:=(Zqn d.pool).filter _
theorem Zks {d:Zac} {i:Nat} (h:i∈Zcc d):d.pool.tk i=true/\Zas d i=0:=by
 unfold Zcc at h;rw[List.mem_filter] at h;exact⟨(List.mem_filter.1 h.1).2,by simpa using h.2⟩
theorem Zl5 (f g:Nat->Bool):∀ k,((((List.range k).filter f).filter g).length:Int)=Zar k (fun i=>if f i=true then (if g i=true then 1 else 0) else 0)
 | 0=>by simp[Zar]
 | k+1=>by
   rw[List.range_succ,List.filter_append,List.filter_append,List.length_append];have ih:=Zl5 f g k;rw[Int.natCast_add,ih];cases hf:f k<;>cases hg:g k<;>simp[Zar,hf,hg,List.filter]
theorem Zo2 {d:Zac} {ext:Nat->Int} (h:Zby d ext):(Zcc d).length=d.dead:=by
 have h1:=h.dead;have h2:((Zcc d).length:Int)=Zar d.pool.at_.length (dead1 (Zaa d) (Zas d)):=by
  unfold Zcc Zdj Zdz;rw[Zl5];refine Zax _ fun i _=>?_
  unfold dead1 Zaa Zak.get;cases ht:d.pool.tk i<;>simp
 unfold Zd2 at h1;omega
structure Zdk (d:Zac) (k:Nat) (d':Zac):Prop where
 vars:d'.vars=d.vars
 level:d'.level=d.level
 counts:d'.counts=d.counts
 dead:d'.dead=d.dead
 room:d'.pool.room=d.pool.room
 alen:d'.pool.at_.length=d.pool.at_.length
 keep:∀ i,i∉(Zcc d).take k->d'.pool.tk i=d.pool.tk i/\d'.pool.nd i=d.pool.nd i
 gone:∀ i,i∈(Zcc d).take k->d'.pool.tk i=false
 tab:∀ v,v<d.vars.length->∀ lo hi id,d'.tab v (lo,hi)=some id↔Zaa d' id=some ⟨v,lo,hi⟩
 many:d'.pool.many+k=d.pool.many
theorem Zdk.start {d:Zac} (ht:∀ v,v<d.vars.length->∀ lo hi id,d.tab v (lo,hi)=some id↔Zaa d id=some ⟨v,lo,hi⟩):Zdk d 0 d :=
 ⟨rfl,rfl,rfl,rfl,rfl,rfl,fun _ _=>⟨rfl,rfl⟩,fun i h=>by simp at h,ht,rfl⟩
def Zwd (d:Zac) (i:Nat) (b:BN):Zac:={ d with pool:=d.pool.give i,tab:=fun v=>if v=b.v then putF (d.tab v) (b.lo,b.hi) none else d.tab v }
theorem Zdk.at {d d':Zac} {k i:Nat} (h:Zdk d k d') (hi:(Zcc d)[k]?=some i):d'.pool.tk i=true/\d'.pool.nd i=d.pool.nd i:=by
 obtain⟨hlt,e⟩:=List.getElem?_eq_some_iff.1 hi;have hm:i∈Zcc d:=e ▸ List.getElem_mem hlt;have hn:i∉(Zcc d).take k:=by
  intro hh;rw[List.mem_take_iff_getElem] at hh;obtain⟨j,hj,e2⟩:=hh;have hne:=List.pairwise_iff_getElem.1 (Zq8 d) j k (by omega) hlt (by omega);exact hne (e2.trans e.symm)
 have:=h.keep i hn;exact⟨this.1.trans (Zks hm).1,this.2⟩
theorem Zdk.next {d d':Zac} {k i:Nat} (h:Zdk d k d') (hi:(Zcc d)[k]?=some i) (hl:d'.pool.taken.length=d'.pool.at_.length) (hat:i<d'.pool.at_.length) (hm:1<=d'.pool.many) :
 Zdk d (k+1) (Zwd d' i (bnOf (d'.pool.nd i))):=by
 obtain⟨hlt,e⟩:=List.getElem?_eq_some_iff.1 hi;obtain⟨ht,hnd⟩:=h.at hi;have e1:(Zcc d).take (k+1)=(Zcc d).take k++[i]:=by rw[List.take_succ_eq_append_getElem hlt,e]
 have tk:∀ j,(d'.pool.give i).tk j=if j=i then false else d'.pool.tk j:=fun j=>Zla (by rw[hl];exact hat) j
 have nd:∀ j,(d'.pool.give i).nd j=if j=i then rn0 else d'.pool.nd j:=fun j=>Zhy hat j
 have hni:Zaa d' i=some (bnOf (d'.pool.nd i)):=by unfold Zaa Zak.get;rw[if_pos ht];rfl
 have hno:∀ j,Zaa (Zwd d' i (bnOf (d'.pool.nd i))) j=if j=i then none else Zaa d' j:=fun j=>by
  unfold Zaa
  show ((d'.pool.give i).get j).map bnOf=_
  rw[Zak.give_get (by rw[hl];exact hat) hat]
  by_cases e:j=i<;>simp[e]
 refine⟨h.vars,h.level,h.counts,h.dead,h.room,?_,fun j hj=>?_,fun j hj=>?_,fun v hv lo hY id=>?_,?_⟩
 ·
  show (d'.pool.at_.set i rn0).length=_
  rw[List.length_set];exact h.alen
 ·
  rw[e1] at hj;simp only[List.mem_append,List.mem_singleton,not_or] at hj
  show (d'.pool.give i).tk j=_/\(d'.pool.give i).nd j=_
  rw[tk,nd,if_neg hj.2,if_neg hj.2];exact h.keep j hj.1
 ·
  rw[e1] at hj;simp only[List.mem_append,List.mem_singleton] at hj
  show (d'.pool.give i).tk j=_
  rw[tk]
  by_cases e2:j=i
  ·
   rw[if_pos e2]
  ·
   rw[if_neg e2];exact h.gone j (hj.resolve_right e2)
 ·
  rw[hno];have h0:=h.tab v hv lo hY id
  show (if v=(bnOf (d'.pool.nd i)).v then putF (d'.tab v) ((bnOf (d'.pool.nd i)).lo,(bnOf (d'.pool.nd i)).hi) none else d'.tab v) (lo,hY)=some id↔_
  by_cases e2:id=i
  ·
   subst e2;simp only[if_true];constructor
   ·
    intro hh;exfalso
    by_cases e3:v=(bnOf (d'.pool.nd id)).v
    ·
     rw[if_pos e3] at hh;unfold putF at hh
     by_cases e4:(lo,hY)=((bnOf (d'.pool.nd id)).lo,(bnOf (d'.pool.nd id)).hi)
     ·
      rw[if_pos e4] at hh;cases hh
     ·
      rw[if_neg e4,h0,hni] at hh;cases hh;exact e4 rfl
    ·
     rw[if_neg e3,h0,hni] at hh;cases hh;exact e3 rfl
   ·
    intro hh;cases hh
  ·
   rw[if_neg e2,<- h0]
   by_cases e3:v=(bnOf (d'.pool.nd i)).v
   ·
    rw[if_pos e3];unfold putF
    by_cases e4:(lo,hY)=((bnOf (d'.pool.nd i)).lo,(bnOf (d'.pool.nd i)).hi)
    ·
     rw[if_pos e4];constructor
     ·
      intro hh;cases hh
     ·
      intro hh;exfalso;have q:=(h.tab v hv lo hY i).2 (by rw[hni];cases e4;rw[e3]);rw[hh] at q;cases q;exact e2 rfl
    ·
     rw[if_neg e4]
   ·
    rw[if_neg e3]
 ·
  show d'.pool.many-1+(k+1)=_
  have:=h.many;omega
structure Za2 (d d':Zac):Prop where
 vars:d'.vars=d.vars
 level:d'.level=d.level
 counts:d'.counts=d.counts
 room:d'.pool.room=d.pool.room
 dead:d'.dead=0
 alen:d'.pool.at_.length=d.pool.at_.length
 nodes:∀ i,Zaa d' i=if 0<Zas d i then Zaa d i else none
 ext:∀ i b,Zaa d' i=some b->Zat d' i=Zat d i
 tab:∀ v,v<d.vars.length->∀ lo hi id,d'.tab v (lo,hi)=some id↔Zaa d' id=some ⟨v,lo,hi⟩
 many:d'.pool.many+d.dead=d.pool.many
theorem Zdk.done {d d':Zac} {ext:Nat->Int} (h:Zdk d (Zcc d).length d') (hl:Zby d ext) (hat:∀ i,d.pool.tk i=true->i<d.pool.at_.length):Za2 d { d' with dead:=0 }:=by
 have hk:(Zcc d).take (Zcc d).length=Zcc d:=List.take_length;have hmem:∀ i,d.pool.tk i=true->Zas d i=0->i∈Zcc d:=fun i h1 h2=>by
  unfold Zcc Zdj Zdz;simp only[List.mem_filter,List.mem_range,decide_eq_true_eq];exact⟨⟨hat i h1,h1⟩,h2⟩
 refine⟨h.vars,h.level,h.counts,h.room,rfl,h.alen,fun i=>?_,fun i b hb=>?_,h.tab,by rw[<- Zo2 hl];exact h.many⟩
 ·
  show (d'.pool.get i).map bnOf=if 0<Zas d i then (d.pool.get i).map bnOf else none
  unfold Zak.get
  by_cases hc:i∈Zcc d
  ·
   have h1:=h.gone i (by rw[hk];exact hc);have h2:=(Zks hc).2;simp[h1,h2]
  ·
   obtain⟨h1,h2⟩:=h.keep i (by rw[hk];exact hc);rw[h1,h2]
   by_cases h3:0<Zas d i
   ·
    rw[if_pos h3]
   ·
    rw[if_neg h3];cases ht:d.pool.tk i with
    | false=>rfl
    | true=>exact absurd (hmem i ht (by omega)) hc
 ·
  have hb':(d'.pool.get i).map bnOf=some b:=hb;have ht:d'.pool.tk i=true:=by
   unfold Zak.get at hb';cases ht:d'.pool.tk i with
   | true=>rfl
   | false=>rw[ht] at hb';simp at hb'
  have hc:i∉Zcc d:=fun hc=>by rw[h.gone i (by rw[hk];exact hc)] at ht;cases ht
  obtain⟨h1,h2⟩:=h.keep i (by rw[hk];exact hc)
  show (if d'.pool.tk i=true then ((d'.pool.nd i).refs:Int) else 0)=if d.pool.tk i=true then ((d.pool.nd i).refs:Int) else 0
  rw[h1,h2]
theorem Zjp {d:Zac} {ext:Nat->Int} (hl:Zby d ext) (h0:d.dead=0) {i:Nat} {b:BN} (hb:Zaa d i=some b):0<Zas d i:=by
 have h1:=hl.dead;rw[h0] at h1;have h2:=Zjt (f:=dead1 (Zaa d) (Zas d)) d.pool.at_.length (fun i _=>Zi1 _ _ i) (hl.cnt.lt i b hb);unfold Zd2 at h1;unfold dead1 at h2;rw[hb] at h2
 by_cases h:Zas d i=0
 ·
  simp only[h,if_true] at h2;unfold dead1 at h1;omega
 ·
  omega
theorem Za2.none {d:Zac} {V:Nat->BF} (hk:Zaj d V) (h0:d.dead=0):Za2 d d:=by
 refine⟨rfl,rfl,rfl,rfl,h0,rfl,fun i=>?_,fun _ _ _=>rfl,hk.tab,by omega⟩;cases hb:Zaa d i with
 | none=>simp
 | some b=>rw[if_pos (Zjp hk.live h0 hb)]
theorem Zo9 (d:Zac) (i:Nat):0<=Zat d i:=by unfold Zat;split<;>omega
section
variable {d d':Zac} {V:Nat->BF}
theorem Za2.sub (r:Za2 d d') {i:Nat} {b:BN} (h:Zaa d' i=some b):Zaa d i=some b/\0<Zas d i:=by
 rw[r.nodes] at h;split at h
 ·
  rename_i hc;exact⟨h,hc⟩
 ·
  cases h
theorem Za2.cnt (r:Za2 d d'):Zas d'=Zas d:=by funext i;unfold Zas;rw[r.counts]
theorem Za2.lev (r:Za2 d d'):levN d'=levN d:=by funext v;unfold levN;rw[r.level]
theorem Za2.kid (r:Za2 d d') (hk:Zaj d V) {i:Nat} {b:BN} (h:Zaa d' i=some b) {e:Nat} (he:e=b.lo\/e=b.hi):okE (Zaa d') e:=by
 obtain⟨h1,h2⟩:=r.sub h;have ho:okE (Zaa d) e:=by
  rcases he with rfl|rfl
  ·
   exact hk.dag.okLo i b h1
  ·
   exact hk.dag.okHi i b h1
 rcases ho with h0|⟨c,hc⟩
 ·
  exact .inl h0
 ·
  refine .inr ⟨c,?_⟩;rw[r.nodes,if_pos (hk.live.cnt.pos_of_live h1 h2 he hc (Zo9 d _))];exact hc
theorem Za2.lvE (r:Za2 d d') (h0:Zaa d 0=Option.none) {n:Nat} {lev:Nat->Nat} {e:Nat} (he:okE (Zaa d') e):Go.Proofs.YtlgogjbkadckkaaGreat.lvE n lev (Zaa d') e=Go.Proofs.YtlgogjbkadckkaaGreat.lvE n lev (Zaa d) e:=by
 unfold Go.Proofs.YtlgogjbkadckkaaGreat.lvE;rcases he with he|⟨b,hb⟩
 ·
  have:Zaa d' 0=Option.none:=by rw[r.nodes,h0];simp
  rw[he,h0,this]
 ·
  rw[hb,(r.sub hb).1]
theorem Za2.ok (r:Za2 d d') (hk:Zaj d V):Zaj d' V:=by
 have hlv:∀ e,okE (Zaa d') e->Go.Proofs.YtlgogjbkadckkaaGreat.lvE d.vars.length (levN d) (Zaa d') e=Go.Proofs.YtlgogjbkadckkaaGreat.lvE d.vars.length (levN d) (Zaa d) e:=fun e he=>r.lvE hk.dag.none0 he
 refine⟨?_,⟨?_,?_,fun i b hb=>by rw[r.counts];exact hk.live.has i b (r.sub hb).1⟩,by rw[r.vars];exact r.tab,by rw[r.counts];exact hk.clen,by rw[r.vars];exact hk.small,by rw[r.vars,r.lev];exact hk.inv,by rw[r.vars,r.lev];exact hk.vlt⟩
 ·
  rw[r.vars,r.lev];exact hk.dag.restrict (Zaa d') (fun i b h=>(r.sub h).1) (fun i b h=>⟨r.kid hk h (.inl rfl),r.kid hk h (.inr rfl)⟩)
 ·
  rw[r.alen,r.cnt];exact(hk.live.cnt.collect (Zaa d') r.nodes).congr (fun x b hb=>r.ext x b hb)
 ·
  rw[r.dead];unfold Zd2;rw[Zax (g:=fun _=>0) _ (fun i _=>?_),Zc6]
  ·
   rfl
  ·
   unfold dead1;cases hb:Zaa d' i with
   | none=>rfl
   | some b=>have:=(r.sub hb).2;rw[r.cnt];simp;omega
end
end Go.Proofs.YtlgogjbkadckkaaGreat

namespace Go.Proofs.YtlgogjbkadckkaaGreat
open Go.RowKit Go.Shelf
attribute [local go_sem] Oper.semAt_some
theorem Zed {F:Fence} {fu:Nat} (T e:TypeId) (size bytes:Nat) (z:Value) (hT:Tryz.prog.underlying T=some (.slice e)) (he:(Tryz.prog.info? e).map (fun i=>(i.zero,i.size,i.bytes))=some (some z,size,bytes)) (hzs:z.cells.size=size) (hsz:0<size)
 {wr:World} {ops:Array Oper} {rest:List Oper} {op:Oper} {a:Act} {Q:Exit->Act->World->Prop} {W:World} (hgd:op.guard=none) (s x:Operand)
 (hop:op.op=.call { callee:=.builtin .append,args:=#[s,x],argTypes:=#[T,T] })
 {o:Own} {r:Role} {v:Value} {n:Nat} {xs:List Value} (hs:a.eval s=v) {N:Nat} (hx:a.eval x=.slice (some ⟨N,0,none⟩) 1 1) {news:Array Value}
 (hW:W=wr.alloc (.cells news e)) (hN:N=wr.heap.size) (hl:news.size=size) (h1:∀ u∈news.toList,u.oneCell'=true) (h:RowR o wr r e size v n xs) (hlt:Zai o wr) (hn:n<1000000000) (hb:bytes<=10000)
 (hK:∀ g cap w' o',RowR o' w' r e size (.slice (some ⟨g,0,none⟩) (n+1) cap) (n+1) (xs++news.toList)->Chg (· = r) o o' wr w'->Zai o' w'->wpListIn F fu Tryz.prog ops Q rest (a.put op.dst (.slice (some ⟨g,0,none⟩) (n+1) cap)) w'):wpListIn F fu Tryz.prog ops Q (op::rest) a W:=by
 subst hN;subst hW
 obtain⟨g,cap,w',o',hr,h2,h3,h4⟩:=Ziq T e op.type size bytes z hT he hzs hsz news hl h1 h hlt hn hb;refine wpListIn_plain hgd fun K hKK=>?_
 unfold Oper.wpIn;refine⟨?_,?_⟩
 ·
  simp[Oper.about,hop,resolve,Target.leads,Sem.run_pure]
 ·
  rw[Oper.semAt_plain F _ _ (by rw[hop];intro c hc';cases hc')];simp only[execOp,hop,resolve,invoke,builtin,Sem.run_bind,Sem.run_pure,Result.andThen_ok,List.map_toArray,List.map_cons,List.map_nil,hs,hx,hr];exact hKK _ _ (hK g cap w' o' h2 h3 h4)
theorem Zgn (w:World) (o:Obj):(w.alloc o).drew=w.drew.alloc o:=rfl
theorem Zqw {F:Fence} {n:Nat} {P:Program} {c:Code} {Q:Exit->Act->World->Prop} {a:Act} {w:World} (W1:World) (h:∃ A,c.wpIn F n P (fun e a' W'=>e=.normal/\a'=A/\W'=W1) a w/\Q .normal A W1):c.wpIn F n P Q a w:=by
 obtain⟨A,h1,h2⟩:=h;refine wpIn_mono h1 ?_;rintro _ _ _ ⟨rfl,rfl,rfl⟩;exact h2
def Zff (d:Zac) (pre:List Nat):List Nat:=pre.filter (fun i=>decide (Zas d i=0))
structure GatS (d:Zac) (w:World) (sb:Nat) (pre:List Nat) (M:Nat->Prop) (W:World) (v:Value) (oG:Own):Prop where
 mm:∀ k,M k↔(k=w.heap.size\/k=w.heap.size+1\/oG k=some .slots)
 low:Below w.heap.size w W
 boxs:W.heap[w.heap.size]?=some (.cells #[.pointer (some ⟨sb,0,none⟩)] 80 (0,0))
 boxg:W.heap[w.heap.size+1]?=some (.cells #[v] 63 (0,0))
 row:RowR oG W .slots 65 5 v (Zff d pre).length ((Zff d pre).flatMap fun i=>rnV (d.pool.nd i))
 lt:Zai oG W
 ge:∀ k r,oG k=some r->r=.slots/\w.heap.size+2<=k
def Gat (d:Zac) (w:World) (sb:Nat) (pre:List Nat) (M:Nat->Prop) (W:World):Prop:=∃ v oG,GatS d w sb pre M W v oG
theorem GatS.minds {d:Zac} {w:World} {sb:Nat} {pre:List Nat} {M:Nat->Prop} {W W':World} {v:Value} {oG:Own} (h:GatS d w sb pre M W v oG) (hw:Wr (fun k=>w.heap.size<=k/\¬ M k) W W'):GatS d w sb pre M W' v oG:=by
 have hk:∀ k,k<W.heap.size->M k->W'.heap[k]?=W.heap[k]?:=fun k h1 h2=>hw.keep k h1 (fun e=>e.2 h2)
 have hm:=h.mm
 refine⟨hm,h.low.trans (hw.below (fun k h=>h.1) h.low.size),(hk _ (Array.getElem?_eq_some_iff.1 h.boxs).1 ((hm _).2 (.inl rfl))).trans h.boxs,(hk _ (Array.getElem?_eq_some_iff.1 h.boxg).1 ((hm _).2 (.inr (.inl rfl)))).trans h.boxg,
  h.row.keep (fun g hg=>hk g (h.lt g _ hg) ((hm g).2 (.inr (.inr hg)))) (fun _ h=>h),h.lt.mono hw.size,h.ge⟩
theorem Zwm {d:Zac} {pre:List Nat} {x:Nat} (h:Zas d x=0):Zff d (pre++[x])=Zff d pre++[x]:=by unfold Zff;rw[List.filter_append];simp[h]
theorem Zzc {d:Zac} {pre:List Nat} {x:Nat} (h:Zas d x≠0):Zff d (pre++[x])=Zff d pre:=by unfold Zff;rw[List.filter_append];simp[h]
theorem GatS.add {d:Zac} {w:World} {sb:Nat} {pre:List Nat} {M:Nat->Prop} {W W1:World} {v v':Value} {oG oG':Own} {x:Nat} (h:GatS d w sb pre M W v oG) (hc:Zas d x=0)
 (hr:RowR oG' W1 .slots 65 5 v' ((Zff d pre).length+1) (((Zff d pre).flatMap fun i=>rnV (d.pool.nd i))++rnV (d.pool.nd x))) (hg:Chg (· = .slots) oG oG' W W1) (hl:Zai oG' W1) {n:Nat} (hn:n<=W.heap.size) :
 ∃ M',Gat d w sb (pre++[x]) M' (W1.setCell ⟨w.heap.size+1,0,none⟩ v')/\Wr (fun k=>M k\/n<=k) W (W1.setCell ⟨w.heap.size+1,0,none⟩ v')/\∀ k,M' k->M k\/n<=k:=by
 have none:∀ k,k<w.heap.size+2->oG k=Option.none:=fun k hk=>by
  cases e:oG k with
  | none=>rfl
  | some r=>have:=(h.ge k r e).2;omega
 have hb1:w.heap.size+1<W.heap.size:=(Array.getElem?_eq_some_iff.1 h.boxg).1;have k0:=(hg.alien (by omega) (none w.heap.size (by omega))).trans h.boxs;have k1:=(hg.alien hb1 (none (w.heap.size+1) (by omega))).trans h.boxg;have ge':∀ k r,oG' k=some r->r=.slots/\w.heap.size+2<=k:=fun k r hk=>by
  by_cases e:oG' k=oG k
  ·
   rw[e] at hk;exact h.ge k r hk
  ·
   obtain⟨a1,q,a2,a3⟩:=hg.new k e;rw[hk] at a2;cases a2
   exact⟨a3,by omega⟩
 refine⟨fun k=>k=w.heap.size\/k=w.heap.size+1\/oG' k=some .slots,⟨v',oG',⟨fun k=>Iff.rfl,?_,?_,Zae k1 _,?_,hl.mono (by simp[World.setCell]),ge'⟩⟩,?_,fun k hk=>?_⟩
 ·
  have:Below w.heap.size w W1:=h.low.trans ⟨hg.os,hg.tape,hg.output,hg.size,fun k hk=>hg.alien (Nat.lt_of_lt_of_le hk h.low.size) (none k (by omega))⟩;exact this.setCell (p:=⟨w.heap.size+1,0,Option.none⟩) (by show _<=w.heap.size+1;omega) _
 ·
  exact(Zad (by show _≠w.heap.size+1;omega) _).trans k0
 ·
  rw[Zwm hc,List.length_append,List.flatMap_append];simp only[List.length_singleton,List.flatMap_cons,List.flatMap_nil,List.append_nil];exact hr.setCell_other (fun e=>by have:=(ge' _ _ e).2;simp at this) _
 ·
  have:Wr (fun k=>M k\/n<=k) W W1:=⟨hg.os,hg.tape,hg.output,hg.size,fun k hk hm=>hg.block k hk fun r hr e=>hm (.inl ((h.mm k).2 (.inr (.inr (by rw[hr,e])))))⟩;exact this.setCell (p:=⟨w.heap.size+1,0,Option.none⟩) (.inl (.inl ((h.mm _).2 (.inr (.inl rfl))))) _
 ·
  rcases hk with hk|hk|hk
  ·
   exact .inl ((h.mm k).2 (.inl hk))
  ·
   exact .inl ((h.mm k).2 (.inr (.inl hk)))
  ·
   by_cases e:oG' k=oG k
   ·
    rw[e] at hk;exact .inl ((h.mm k).2 (.inr (.inr hk)))
   ·
    have:=(hg.new k e).1;right;omega
theorem GatS.no {d:Zac} {w:World} {sb:Nat} {pre:List Nat} {M:Nat->Prop} {W:World} {v:Value} {oG:Own} (h:GatS d w sb pre M W v oG) (k:Nat) (hk:k<w.heap.size+2):oG k=none:=by
 cases e:oG k with
 | none=>rfl
 | some r=>have:=(h.ge k r e).2;omega
theorem GatS.drew {d:Zac} {w:World} {sb:Nat} {pre:List Nat} {M:Nat->Prop} {W:World} {v:Value} {oG:Own} (h:GatS d w sb pre M W v oG):GatS d w sb pre M W.drew v oG:=h.minds ((Wr.refl _ W).drew)
def Zyv (o:Own) (W2:World) (sb:Nat) (d:Zac) (s:Za0) (k:Nat) (wr:World):Prop:=∃ o1 d1,Zal o1 wr sb d1 s/\Zai o1 wr/\Zdk d k d1/\Chg Zam o o1 W2 wr
theorem Zyv.next {o o1 o2:Own} {W2 wr w3 w4 w4' w5:World} {sb:Nat} {d d1:Zac} {s:Za0} {k i:Nat} {N:RN} (hs1:Zal o1 wr sb d1 s) (hl1:Zai o1 wr) (hr1:Zdk d k d1) (hc1:Chg Zam o o1 W2 wr) (hi:(Zcc d)[k]?=some i) (hN:d1.pool.nd i=N) (hb3:Below wr.heap.size wr w3)
 (ht:Zc0 o1 w4 N.v (s.ts.getD N.v 0) (putF (d1.tab N.v) (N.lo,N.hi) none)) (hct:Chg (· = .tmap N.v) o1 o1 w3 w4) (hl4:Zai o1 w4) (hb:Below w4.heap.size w4 w4')
 (hp:Zao o2 w5 s.pb (d1.pool.give i)) (hcp:Chg (fun r=>r=.pool\/r=.slots\/r=.taken\/r=.free) o1 o2 w4' w5) (hl5:Zai o2 w5):Zyv o W2 sb d s (k+1) w5:=by
 have h3:=hs1.below hl1 hb3;have hl3:=hl1.mono hb3.size;have h4:=h3.setTab hl3 ht hct;have h4':=h4.below hl4 hb;have h5:=h4'.setPool (hl4.mono hb.size) hp hcp;have hat:i<d1.pool.at_.length:=(hs1.pool.tk_lt (hr1.at hi).1).2;have e:(fun u=>if u=N.v then putF (d1.tab N.v) (N.lo,N.hi) none else d1.tab u)=(fun u=>if u=N.v then putF (d1.tab u) (N.lo,N.hi) none else d1.tab u):=by
  funext u
  by_cases h:u=N.v
  ·
   subst h;rfl
  ·
   simp[h]
 rw[e] at h5;refine⟨o2,Zwd d1 i (bnOf N),h5,hl5,?_,hc1.trans ((Chg.of_below hb3 _ o1).trans ((hct.mono ?_).trans ((Chg.of_below hb _ o1).trans (hcp.mono ?_))))⟩
 ·
  have:=hr1.next hi hs1.pool.len hat (by
   have h1:=hs1.pool.cnt;have h2:=Zqj (f:=fun j=>if d1.pool.tk j=true then (1:Int) else 0) (fun j _=>by split<;>omega) hat (by simp[(hr1.at hi).1]);omega)
  rw[hN] at this;exact this
 ·
  rintro r rfl;exact .inr (.inr (.inr (.inr (.inr (.inr (.inl ⟨_,.inr rfl⟩))))))
 ·
  rintro r h;exact .inr (.inr (.inr (.inr (.inl h))))
theorem Zc5 {P:Program} {S:World->Prop} {Q:Exit->Act->World->Prop} {ops:Array Oper} {o:Oper} {a:Act} {w:World} {f:FuncId} {args:Array Value} {R:Value->World->Prop} (hg:o.guard=none)
 (he:(execOp a.eval o).run P w=.ok (.enter f args) w) (hc:Calls P f args w fun e w'=>∃ v,e=.returned v/\R v w') (h:∀ v w',R v w'->Q .normal (a.put o.dst v) w'):Zck P ops Q S true [(some o,true)] a w:=by
 refine Zel hg fun K hK=>?_
 unfold Oper.wp;simp only[he,Oper.upon];exact hc.mono fun e w' ⟨v,h1,h2⟩=>by subst h1;exact hK _ _ (h v w' h2)
theorem Zhm {o:Own} {w:World} {sb:Nat} {d:Zac} (h:Zaq o w sb d) (h0:d.dead=0) :
 Calls Tryz.prog 65 #[.pointer (some ⟨sb,0,none⟩)] w fun x w'=>x=.returned (.int .i64 0)/\Below w.heap.size w w':=by
 obtain⟨s,h⟩:=h;obtain⟨c0,c1,c2,c3,c4,f0⟩:=cells5 h.blk;rw[h0] at c4;obtain⟨w1,hw1⟩:∃ w1,w1=w.alloc (.cells #[.pointer (some ⟨sb,0,none⟩)] 80):=⟨_,rfl⟩;have hb1:Below w.heap.size w w1:=by rw[hw1];exact Zaf w _
 have cB:w1.cell? ⟨w.heap.size,0,none⟩=some (.pointer (some ⟨sb,0,none⟩)):=by rw[hw1];exact cell1 (heap_alloc_new w _)
 have c4':=(hb1.cell (p:=⟨sb,4,none⟩) (Zab c4)).trans c4;have HW:Hid (_=w1):=Hd hw1.symm;have HB:=Hd hb1;clear h c0 c1 c2 c3 c4 f0 hw1 hb1 h0;refine(callsIn_wide (n:=9)).1 ?_;refine callsIn_of_wp_marks Tryz.func65 rfl trivial ?_;refine wpIn_wide.2 ?_;simp only[Tryz.ntmps65,List.size_toArray,List.length_cons,List.length_nil,Nat.reduceAdd,Nat.reduceSub,Array.replicate_succ,Array.replicate_zero,List.push_toArray,List.append_toArray,List.nil_append,List.cons_append];go_upto_region 1 with fail;rw[HW.out];go_wp2_with fail;exact⟨_,results_tmp rfl _ _ _,rfl,HB.out⟩
theorem Zj7 {o:Own} {w:World} {sb:Nat} {d:Zac} {V:Nat->BF} (h:Zaq o w sb d) (hlt:Zai o w) (hk:Zaj d V) (h0:d.dead≠0) :
 Calls Tryz.prog 65 #[.pointer (some ⟨sb,0,none⟩)] w fun x w'=>x=.returned (.int .i64 d.dead)/\∃ o' d',Zaq o' w' sb d'/\Zai o' w'/\Za2 d d'/\Chg Zam o o' w w':=by
 obtain⟨s,h⟩:=h;obtain⟨c0,c1,c2,c3,c4,f0⟩:=cells5 h.blk;have hd1:((d.dead:Int) == 0)=false:=by simpa using h0
 obtain⟨w1,hw1⟩:∃ w1,w1=w.alloc (.cells #[.pointer (some ⟨sb,0,none⟩)] 80):=⟨_,rfl⟩;have hb1:Below w.heap.size w w1:=by rw[hw1];exact Zaf w _
 have hB:w1.heap[w.heap.size]?=some (.cells #[.pointer (some ⟨sb,0,none⟩)] 80 (0,0)):=by rw[hw1];exact heap_alloc_new w _
 have hs1:w1.heap.size=w.heap.size+1:=by rw[hw1];simp
 obtain⟨w2,hw2⟩:∃ w2,w2=w1.alloc (.cells #[.slice none 0 0] 63):=⟨_,rfl⟩;have hb2:Below w.heap.size w w2:=by rw[hw2];exact hb1.alloc (by omega) _
 have hB2:w2.heap[w.heap.size]?=some (.cells #[.pointer (some ⟨sb,0,none⟩)] 80 (0,0)):=by rw[hw2];exact(Below.heap_alloc w1 _ _ (by omega)).trans hB
 have hG2:w2.heap[w.heap.size+1]?=some (.cells #[.slice none 0 0] 63 (0,0)):=by rw[hw2,<- hs1];exact heap_alloc_new w1 _
 have hs2:w2.heap.size=w.heap.size+2:=by rw[hw2];simp[hs1]
 have cB1:=cell1 hB;have cB2:=cell1 hB2;have cS1:=(hb1.cell (p:=⟨sb,4,none⟩) (Zab c4)).trans c4;have cS2:=(hb2.cell (p:=⟨sb,1,none⟩) (Zab c1)).trans c1;have HW1:Hid (_=w1):=Hd hw1.symm;have HW2:Hid (_=w2):=Hd hw2.symm;have HB2:=Hd hb2;have HH:=Hd h;have HE:=Hd (callsIn_wide.1 (Ybt Fence.wide 9 trivial rfl s.pb w2));clear h c0 c1 c2 c3 c4 f0 hw1 hw2 hb1 hb2;refine(callsIn_wide (n:=9)).1 ?_;refine callsIn_of_wp_marks Tryz.func65 rfl trivial ?_;refine wpIn_wide.2 ?_;simp only[Tryz.ntmps65,List.size_toArray,List.length_cons,List.length_nil,Nat.reduceAdd,Nat.reduceSub,Array.replicate_succ,Array.replicate_zero,List.push_toArray,List.append_toArray,List.nil_append,List.cons_append];go_upto_region 1 with fail;rw[HW1.out];go_upto_region 4 with fail;rw[HW2.out];go_wp2_with fail;refine HE.out.mono ?_;rintro x w3 ⟨rfl,hw3⟩;go_wp2_with fail;obtain⟨w3',hw3'⟩:∃ w3',w3'=w2.alloc (.cells #[.pointer (some ⟨s.pb,0,none⟩)] 134):=⟨_,rfl⟩;rw[<- hw3'];have hs3:w3'.heap.size=w.heap.size+3:=by rw[hw3'];simp[hs2]
 have hb3:Below w.heap.size w w3':=by rw[hw3'];exact HB2.out.alloc (by omega) _
 have hB3:w3'.heap[w.heap.size]?=some (.cells #[.pointer (some ⟨sb,0,none⟩)] 80 (0,0)):=by rw[hw3'];exact(Below.heap_alloc w2 _ _ (by omega)).trans hB2
 have hG3:w3'.heap[w.heap.size+1]?=some (.cells #[.slice none 0 0] 63 (0,0)):=by rw[hw3'];exact(Below.heap_alloc w2 _ _ (by omega)).trans hG2
 have hP3:w3'.cell? ⟨w.heap.size+2,0,none⟩=some (.pointer (some ⟨s.pb,0,none⟩)):=by rw[hw3',<- hs2];exact cell1 (heap_alloc_new w2 _)
 have HST:Hid (Zal o w sb d s):=HH;have HLT:=Hd hlt;have HK:=Hd hk;have HG:=Hd (Zq9 Fence.wide 8 trivial trivial trivial rfl (by omega) (w.heap.size+2) w.heap.size s.pb HH.out.pool hlt (Nat.le_refl _) w3' hb3 (by omega) (by omega) hP3);clear hw3' hB hB2 hG2 cB1 cB2 cS1 cS2 HE HW1 HW2 hs1 hs2 hP3;refine(wpIn_wide (n:=9)).1 ?_;refine Ztp rfl (by omega) (gf:=131) (lb:=#[.pointer (some ⟨w.heap.size+2,0,none⟩)]) rfl trivial (enters_of Tryz.func131 (by kernel_rfl) rfl) HG.out (by omega) (by rintro k rfl;omega) (fun x=>rfl)
  (Gat d w sb) ?_ ?_ (fun k=>k=w.heap.size\/k=w.heap.size+1) (by rintro k rfl h;omega) ⟨.slice none 0 0,fun _=>none,(⟨fun k=>by simp,hb3,hB3,hG3,RowR.nil _ _ _ _ _,fun k r h=>(by cases h),fun k r h=>(by cases h)⟩:GatS d w sb [] _ w3' (.slice none 0 0) (fun _=>none))⟩
  (fun x a' W W1=>∃ Bn,W.heap.size<=Bn/\W1.heap[Bn]?=some (.cells #[.int .i64 (d.pool.nd x).id,.int .i64 (d.pool.nd x).v,.int .i64 (d.pool.nd x).lo,.int .i64 (d.pool.nd x).hi,.int .i64 (d.pool.nd x).refs] 65 (0,0))/\a'={ tmps:=#[Value.pointer (some { block:=sb,off:=0 }),Value.pointer (some { block:=w.heap.size,off:=0 }),Value.int IntKind.i64 0,Value.pointer (some { block:=w.heap.size+1,off:=0 }),Value.pointer (some { block:=Bn,off:=0 }),undef,undef,Value.pointer (some { block:=sb,off:=0 }),Value.bool false,Value.bool false,Value.pointer (some { block:=sb,off:=0 }),Value.pointer (some { block:=sb,off:=0 }),Value.pointer (some { block:=sb,off:=4 }),Value.int IntKind.i64 ↑d.dead,Value.bool false,Value.bool false,Value.pointer (some { block:=sb,off:=0 }),Value.pointer (some { block:=sb,off:=0 }),Value.pointer (some { block:=sb,off:=1 }),Value.pointer (some { block:=s.pb,off:=0 }),Value.func (Fn.func 131) #[] #[Value.pointer (some { block:=w.heap.size+2,off:=0 })],Zau (d.pool.nd x),undef,undef,undef,undef,undef,undef,undef,undef,undef,undef,undef,undef,undef,undef,undef,undef,undef,undef,undef,undef,undef,undef,undef,undef,undef,undef,undef,undef,undef,undef,undef,undef,undef,undef,undef,undef,undef,undef,undef,undef,undef,undef,undef,undef,undef],defers:=[] }) ?_ ?_ ?_ ?_
 ·
  rintro pre M W ⟨v,oG,hS⟩ k hk;rcases(hS.mm k).1 hk with rfl|rfl|hg
  ·
   exact⟨Nat.le_refl _,(Array.getElem?_eq_some_iff.1 hS.boxs).1⟩
  ·
   exact⟨by omega,(Array.getElem?_eq_some_iff.1 hS.boxg).1⟩
  ·
   have:=(hS.ge k _ hg).2;exact⟨by omega,hS.lt k _ hg⟩
 ·
  rintro pre M W W' ⟨v,oG,hS⟩ hw;exact⟨v,oG,hS.minds hw⟩
 ·
  rintro x a' W W1 W2 l hl ⟨Bn,h1,h2,h3⟩ hw;exact⟨Bn,h1,(hw.keep Bn (Array.getElem?_eq_some_iff.1 h2).1 (by omega)).trans h2,h3⟩
 ·
  intro l pre x M W K hI hK;simp only[Zau]
  gi_wp2
  exact hK _ _ ((Wr.refl _ W).alloc _) ⟨W.heap.size,Nat.le_refl _,heap_alloc_new W _,rfl⟩
 ·
  rintro l pre x a' M W0 W ⟨v,oG,hS⟩ ⟨Bn,hBn,hbn,rfl⟩ hs0 hs1 hsuf;obtain⟨suf,hsuf⟩:=hsuf;have hx:d.pool.tk x=true:=Zmd hsuf;have hst:=HST.out.below HLT.out hS.low;obtain⟨q0,q1,q2,q3,q4,_⟩:=cells5 hst.blk;obtain⟨n0,n1,n2,n3,n4,_⟩:=cells5 hbn;have hid:=hst.pool.id x hx;rw[hid] at n0;have hbx:Zaa d x=some (bnOf (d.pool.nd x)):=by unfold Zaa Zak.get;rw[if_pos hx];rfl
  have hxl:x<d.counts.length:=HK.out.live.has x _ hbx;obtain⟨gc,cc,hvc,_⟩:=hst.counts.shape (by omega);have hcell:=hst.counts;rw[hvc] at hcell q3;have hcc:=hcell.cell x (by simpa using hxl);have hval:(d.counts.map nat64)[x]?=some (.int .i64 (Zas d x:Nat)):=by
   rw[List.getElem?_map,List.getElem?_eq_getElem hxl];simp[nat64,Zas,List.getD,hxl]
  rw[hval] at hcc;have hxi:(x:Int)<d.counts.length:=by omega
  have cb:=cell1 hS.boxs;have cg:=cell1 hS.boxg;have HS:=Hd hS;have HBN:=Hd hbn;have HSUF:=Hd hsuf;have HID:=Hd hid;have hmx:Tryz.prog.follows .mixedOrders=true:=by kernel_rfl
  clear hst hcell hval hvc hsuf hS hid hbx
  by_cases hc:Zas d x=0
  ·
   rw[hc] at hcc;have hlen:(Zff d pre).length<1000000000:=by
    have h1:=HST.out.below HLT.out HS.out.low;have h2:=h1.pool.top;have h3:=h1.pool.room;have h4:(Zff d pre).length<=(Zdj d.pool).length:=by rw[<- HSUF.out];unfold Zff;refine Nat.le_trans (List.length_filter_le _ _) ?_;simp
    have h5:(Zdj d.pool).length<=d.pool.at_.length:=by unfold Zdj Zdz;refine Nat.le_trans (List.length_filter_le _ _) ?_;simp
    omega
   have HLEN:=Hd hlen;have HC:=Hd hc;clear hlen
   gi_wp2
   refine Zqw W.drew ?_;apply Exists.intro;refine⟨?_,?_⟩
   ·
    gi_region_o
    all_goals exact⟨rfl,rfl,rfl⟩
   gi_wp2_with (gi_at_builtin
                rw[Zgn];refine Zed (wr:=W.drew) 63 65 5 40 _ Tryz.underlying63 Zjm rfl (by decide) rfl _ _ rfl rfl rfl rfl rfl rfl (by simp[Value.oneCell']) HS.out.drew.row HS.out.drew.lt HLEN.out (by decide) ?_;intro g1 k1 w1 o1 hr1 hc1 hl1;have HR1:=Hd hr1;have HC1:=Hd hc1;have HL1:=Hd hl1;clear hr1 hc1 hl1 q0 q1 q2 q3 q4 cb;have hbg1:=(HC1.out.alien (Array.getElem?_eq_some_iff.1 HS.out.boxg).1 (HS.out.no _ (by omega))).trans HS.out.boxg;have cg1:=cell1 hbg1;have fz:∀ k,w1.frozen? ⟨w.heap.size+1,k,none⟩=false:=fun k=>by simp[World.frozen?,hbg1]
                clear cg hbg1)
   have hadd:=HS.out.drew.add HC.out (W1:=w1) (v':=.slice (some ⟨g1,0,none⟩) ((Zff d pre).length+1) k1) (by
    have e:rnV (d.pool.nd x)=[.int .i64 (x:Nat),.int .i64 (d.pool.nd x).v,.int .i64 (d.pool.nd x).lo,.int .i64 (d.pool.nd x).hi,.int .i64 (d.pool.nd x).refs]:=by unfold rnV;rw[HID.out]
    rw[e];exact HR1.out) HC1.out HL1.out hs0
   obtain⟨M',a1,a2,a3⟩:=hadd;exact⟨M',a1,Wr.trans ((Wr.refl (fun _=>False) W).drew) a2 (fun _ _ e=>e.elim) (fun _ _ e=>e),a3⟩
  ·
   have hc1:((Zas d x:Int) == 0)=false:=by simpa using hc
   gi_wp2
   refine Zqw W.drew ?_;apply Exists.intro;refine⟨?_,?_⟩
   ·
    gi_region_o
    all_goals exact⟨rfl,rfl,rfl⟩
   gi_wp2
   exact⟨M,⟨v,oG,by have:=HS.out.drew;exact⟨this.mm,this.low,this.boxs,this.boxg,by rw[Zzc hc];exact this.row,this.lt,this.ge⟩⟩,(Wr.refl _ W).drew,fun k hk=>.inl hk⟩
 ·
  rintro D M W2 hD hDM ⟨v,oG,hS⟩ _ hw2 hD3;have HS:=Hd hS;have HD3:=Hd hD3;have cg:=cell1 hS.boxg;obtain⟨ag,cpg,rfl,_⟩:=hS.row.slice;clear hS hD3 hDM hw2 HG hB3 hG3 hb3;go_wp2_with fail;have hcellg:∀ k i,(Zcc d)[k]?=some i->∃ g,ag=some ⟨g,0,none⟩/\o g=none/\∀ j u,(rnV (d.pool.nd i))[j]?=some u->W2.cell? ⟨g,k*5+j,none⟩=some u:=by
   intro k i hi;have hki:k<(Zcc d).length:=(List.getElem?_eq_some_iff.1 hi).1;obtain⟨g,cp,he,hog,_⟩:=HS.out.row.shape (by show 0<(Zcc d).length;omega);cases he;refine⟨g,rfl,?_,fun j u hj=>?_⟩
   ·
    have:=(HS.out.ge g _ hog).2;exact HLT.out.none (by omega)
   ·
    have h5:j<5:=by have:=(List.getElem?_eq_some_iff.1 hj).1;simpa [rnV] using this
    have hf:=Zfe (fun i=>rnV (d.pool.nd i)) 5 (fun _=>rfl) (Zcc d) k j i hi h5;have hlen:((Zcc d).flatMap fun i=>rnV (d.pool.nd i)).length=(Zcc d).length*5:=Za6 _ 5 (fun _=>rfl) _;have hc:=HS.out.row.cell (k*5+j) (by show _<((Zcc d).flatMap fun i=>rnV (d.pool.nd i)).length;rw[hlen];omega);rw[hc];exact hf.trans hj
  have HCG:=Hd hcellg;have HDL:Hid ((Zff d (Zdj d.pool)).length=(Zcc d).length):=Hd rfl;have HOB:Hid (o w.heap.size=none/\o (w.heap.size+1)=none):=Hd ⟨HLT.out.none (by omega),HLT.out.none (by omega)⟩;have hst2:=HST.out.below HLT.out HS.out.low;have hlt2:Zai o W2:=HLT.out.mono HS.out.low.size;have HST2:=Hd hst2;have HLT2:=Hd hlt2;have hlB:w.heap.size<W2.heap.size:=(Array.getElem?_eq_some_iff.1 HS.out.boxs).1;have hlG:w.heap.size+1<W2.heap.size:=(Array.getElem?_eq_some_iff.1 HS.out.boxg).1;have hdlt:(Zff d (Zdj d.pool)).length<=1048577:=by
   show (Zcc d).length<=_
   have h2:=hst2.pool.top;have h3:=hst2.pool.room;have h5:(Zcc d).length<=d.pool.at_.length:=by unfold Zcc Zdj Zdz;refine Nat.le_trans (List.length_filter_le _ _) (Nat.le_trans (List.length_filter_le _ _) ?_);simp
   omega
  clear hcellg cg hst2 hlt2;obtain⟨m,hm⟩:∃ m,m=(Zff d (Zdj d.pool)).length:=⟨_,rfl⟩;rw[<- hm] at hdlt HDL ⊢;have HM:=Hd hm;clear hm
  go_loopw [37] (fun i wr=>∃ k:Nat,k<=m/\i=.int .i64 k/\Zyv o W2 sb d s k wr) (fun i _=>m-(intOf i).toNat)
  case atStart=>exact⟨0,Nat.zero_le _,rfl,o,d,HST2.out,HLT2.out,Zdk.start HK.out.tab,Chg.refl _ _ _⟩
  case round =>
   obtain⟨k,hk,rfl,hds⟩:=hrel;have hds0:=hds;obtain⟨o1,d1,hs1,hl1,hr1,hc1⟩:=hds
   by_cases hlt':k<m
   ·
    obtain⟨i,hi⟩:∃ i,(Zcc d)[k]?=some i:=⟨_,List.getElem?_eq_getElem (by have:=HDL.out;omega)⟩;obtain⟨htk,hnd⟩:=hr1.at hi;obtain⟨g,hag,hog,hgc⟩:=HCG.out k i hi;subst hag;obtain⟨N,hN⟩:∃ N,N=d.pool.nd i:=⟨_,rfl⟩;rw[<- hN] at hgc hnd;have e0:=hc1.cell (hgc 0 _ rfl) hog;have e1:=hc1.cell (hgc 1 _ rfl) hog;have e2:=hc1.cell (hgc 2 _ rfl) hog;have e3:=hc1.cell (hgc 3 _ rfl) hog;have e4:=hc1.cell (hgc 4 _ rfl) hog;rw[Nat.add_zero] at e0;have cb:=cell1 ((hc1.alien hlB HOB.out.1).trans HS.out.boxs);have hk1:(k:Int)<m:=by omega
    obtain⟨w3,hw3⟩:∃ w3,w3=wr.alloc (.cells #[.int .i64 N.id,.int .i64 N.v,.int .i64 N.lo,.int .i64 N.hi,.int .i64 N.refs] 65):=⟨_,rfl⟩;obtain⟨b6,hb6⟩:∃ b6,b6=wr.heap.size:=⟨_,rfl⟩;have hb3:Below wr.heap.size wr w3:=by rw[hw3];exact Zaf _ _
    have hbx:w3.heap[b6]?=some (.cells #[.int .i64 N.id,.int .i64 N.v,.int .i64 N.lo,.int .i64 N.hi,.int .i64 N.refs] 65 (0,0)):=by rw[hw3,hb6];exact heap_alloc_new _ _
    have hob6:o1 b6=none:=hl1.none (by omega);have HOB1:Hid (o1 w.heap.size=none):=Hd (hc1.alien' hlB HOB.out.1);have HW3:Hid (_=w3):=Hd hw3.symm;have HB6:Hid (_=b6):=Hd hb6.symm;have HN:=Hd hN;have hid:N.id=i:=by rw[<- hnd];exact hs1.pool.id i htk
    have hbi:Zaa d1 i=some ⟨N.v,N.lo,N.hi⟩:=by unfold Zaa Zak.get;rw[if_pos htk,hnd];rfl
    have hv:N.v<d1.vars.length:=by rw[hr1.vars];exact HK.out.dag.var i ⟨N.v,N.lo,N.hi⟩ (by unfold Zaa Zak.get;rw[if_pos (Zks ((List.getElem?_eq_some_iff.1 hi).2 ▸ List.getElem_mem _)).1,<- hN];rfl)
    have hft:d1.tab N.v (N.lo,N.hi)=some i:=(hr1.tab N.v (by rw[<- hr1.vars];exact hv) _ _ _).2 hbi;have hst3:=hs1.below hl1 hb3;have hl3:=hl1.mono hb3.size;obtain⟨gt,ct,hvt,hct,hvl,hts⟩:=hst3.tabAt hv;obtain⟨q0,q1,q2,q3,q4,_⟩:=cells5 hst3.blk;rw[hvt] at q2;obtain⟨n0,n1,n2,n3,n4,_⟩:=cells5 hbx;have cb3:=(hb3.cell (p:=⟨w.heap.size,0,none⟩) (Zab cb)).trans cb;have hvi:(N.v:Int)<s.ts.length:=by omega
    have HCUT:=Hd (Zv8 o1 N.v (s.ts.getD N.v 0) (d1.tab N.v) N.lo N.hi i w3.drew ((hst3.below hl3 (Zah w3 1)).tab N.v hvl) (hl3.mono (Zah w3 1).size) hft);have HS1:=Hd hs1;have HL1:=Hd hl1;have HR1:=Hd hr1;have HC1:=Hd hc1;have HI:=Hd hi;have HND:=Hd hnd;have HB3:=Hd hb3;have HBX:=Hd hbx;have HTK:=Hd htk;have HIDN:=Hd hid;have HST3:=Hd hst3;have HL3:=Hd hl3;clear hgc hds0 hs1 hl1 hr1 hc1 hi hnd hb3 hbx htk hid hbi hv hft hst3 hl3 hvt hw3 hb6 hN hvl;go_upto_region 11 with fail;rw[HW3.out,HB6.out];refine Zan (fun W:World=>W=w3.drew) true 12 [(0,false),(1,false),(2,false),(3,false),(4,false),(5,false),(6,false),(7,false),(8,false),(9,false),(10,false),(11,false),(12,true)] (by kernel_rfl) (by kernel_rfl) rfl ?_;simp only[planned,Zd8]
    iterate 12
     refine Zap rfl ?_;apply Exists.intro;refine⟨fun w' hw=>?_,?_⟩
     ·
      subst hw;go_simp;rfl
     simp only[Zag]
    refine Zc5 rfl (by go_simp) (HCUT.out.mono (R':=fun e w'=>∃ v,e=.returned v/\(v=.int .i64 0/\Zc0 o1 w' N.v (s.ts.getD N.v 0) (putF (d1.tab N.v) (N.lo,N.hi) none)/\Chg (· = .tmap N.v) o1 o1 w3.drew w'/\Zai o1 w')) (fun e w' h=>⟨_,h.1,rfl,h.2⟩)) ?_;rintro _ w4 ⟨rfl,ht4,hc4,hl4⟩;simp only[Zag];refine Zbx ?_;have hst4:=(HST3.out.below HL3.out (Zah w3 1)).setTab (HL3.out.mono (Zah w3 1).size) ht4 hc4;have cb4:=hc4.cell (w:=w3.drew) (p:=⟨w.heap.size,0,none⟩) cb3 (HOB1.out);have n0':=hc4.cell (w:=w3.drew) (p:=⟨b6,0,none⟩) n0 hob6;obtain⟨p0,p1,p2,p3,p4,_⟩:=cells5 hst4.blk;rw[HIDN.out] at n0';have HGIVE:=Hd (Zp4 o1 s.pb d1.pool i w4.drew (hst4.below hl4 (Zah w4 1)).pool (hl4.mono (Zah w4 1).size) HTK.out);have HT4:=Hd ht4;have HC4:=Hd hc4;have HL4:=Hd hl4;clear ht4 hc4 hl4 hst4 n0 n1 n2 n3 n4 q0 q1 q2 q3 q4 cb3 cb e0 e1 e2 e3 e4 hct hvi;go_upto_region 12 with fail;refine Zan (fun W:World=>W=w4.drew) true 6 [(0,false),(1,false),(2,false),(3,false),(4,false),(5,false),(6,true)] (by kernel_rfl) (by kernel_rfl) rfl ?_;simp only[planned,Zd8]
    iterate 6
     refine Zap rfl ?_;apply Exists.intro;refine⟨fun w' hw=>?_,?_⟩
     ·
      subst hw;go_simp;rfl
     simp only[Zag]
    refine Zc5 rfl (by go_simp) (HGIVE.out.mono (R':=fun e w'=>∃ v,e=.returned v/\(v=.int .i64 0/\∃ o',Zao o' w' s.pb (d1.pool.give i)/\Chg (fun r=>r=.pool\/r=.slots\/r=.taken\/r=.free) o1 o' w4.drew w'/\Zai o' w')) (fun e w' h=>⟨_,h.1,rfl,h.2⟩)) ?_;rintro _ w5 ⟨rfl,o2,hp5,hc5,hl5⟩;simp only[Zag];refine Zbx ?_;have HNX:=Hd (Zyv.next HS1.out HL1.out HR1.out HC1.out HI.out HND.out (HB3.out.trans ((Zah w3 1).mono HB3.out.size)) HT4.out HC4.out HL4.out (Zah w4 1) hp5 hc5 hl5);clear hp5 hc5 hl5 p0 p1 p2 p3 p4 cb4 n0' hlG;go_wp2_with fail;go_roundw
    case rel=>exact⟨k+1,by omega,by go_num,HNX.out⟩
    case measure=>simp[intOf];omega
   ·
    obtain rfl:k=m:=by omega
    have hb0:=(hc1.alien hlB HOB.out.1).trans HS.out.boxs;have hg0:=(hc1.alien hlG HOB.out.2).trans HS.out.boxg;have cb:=cell1 hb0;have cg:=cell1 hg0;obtain⟨q0,q1,q2,q3,q4,qf⟩:=cells5 hs1.blk;have HS1:=Hd hs1;have HL1:=Hd hl1;have HR1:=Hd hr1;have HC1:=Hd hc1;have hsb:sb≠w.heap.size+1:=fun e=>by have h1:=HOB.out.2;have h2:=HST.out.own;rw[e] at h2;rw[h1] at h2;cases h2
    clear hds0 hs1 hl1 hr1 hc1 hb0 hg0;go_wp2_with fail;have hDn:o D=none:=HLT.out.none (by omega);have hDl:D<W2.heap.size:=(Array.getElem?_eq_some_iff.1 HD3.out).1;have hDr:=(HC1.out.alien hDl hDn).trans HD3.out;have hD1:o1 D=none:=HC1.out.alien' hDl hDn;have hsD:D≠sb:=by rintro rfl;have:=HST.out.own;rw[hDn] at this;cases this
    have hkl:k=(Zcc d).length:=HDL.out;refine⟨by simp,.inl ⟨D,_,rfl,run_takeDeferred ((Zad hsD _).trans hDr),?_⟩⟩;have hfin:Zal o1 (wr.setCell ⟨sb,4,none⟩ (.int .i64 0)) sb (d1.cd d1.counts 0) s:=HS1.out.setDead HL1.out 0;have hcoll:Za2 d (d1.cd d1.counts 0):=(hkl ▸ HR1.out:Zdk d (Zcc d).length d1).done HK.out.live (fun i hi=>(HST.out.pool.tk_lt hi).2);have hfin2:Zaq o1 ((wr.setCell ⟨sb,4,none⟩ (.int .i64 0)).putObj D (.deferred none)) sb (d1.cd d1.counts 0) :=
     Zaq.keepR ⟨s,hfin⟩ (fun g r hg _=>World.putObj_heap_other (by rintro rfl;rw[hD1] at hg;cases hg)) (fun _ _ h=>h)
    refine⟨_,results_tmp rfl _ _ _,?_,o1,_,hfin2,HL1.out.mono (by simp[World.setCell]),hcoll,?_⟩
    ·
     show Ending.returned (.int .i64 ((Zff d (Zdj d.pool)).length:Nat))=_
     have:(Zff d (Zdj d.pool)).length=d.dead:=Zo2 HK.out.live;rw[this]
    ·
     have hc:=(Chg.of_below HS.out.low Zam o).trans (HC1.out.setCell (p:=⟨sb,4,none⟩) (r:=.store) HS1.out.own (.inl rfl) (.int .i64 0));exact⟨hc.os,hc.tape,hc.output,by have:=hc.size;simpa [World.setCell] using this,fun k hk hr=>(World.putObj_heap_other (by omega)).trans (hc.block k hk hr),hc.ext,hc.new⟩
open Go.RowKit
structure ChgX (C:Nat->Prop) (o o':Own) (w w':World):Prop where
 os:w'.os=w.os
 tape:w'.tape=w.tape
 output:w'.output=w.output
 size:w.heap.size<=w'.heap.size
 block:∀ k,k<w.heap.size->o k=none->¬ C k->w'.heap[k]?=w.heap[k]?
 ext:∀ k r,o k=some r->o' k=some r
 new:∀ k,o' k≠o k->w.heap.size<=k
abbrev NoB:Nat->Prop:=fun _=>False
section
variable {C D:Nat->Prop} {R:Role->Prop} {o o' o'':Own} {w w' w'':World}
theorem ChgX.of_chg (h:Chg R o o' w w') (C:Nat->Prop):ChgX C o o' w w':=⟨h.os,h.tape,h.output,h.size,fun _ hk ho _=>h.alien hk ho,h.ext,fun k hk=>(h.new k hk).1⟩
theorem ChgX.of_wr (h:Wr D w w') (o:Own) (hD:∀ k,k<w.heap.size->D k->C k):ChgX C o o w w':=⟨h.os,h.tape,h.output,h.size,fun k hk _ hc=>h.keep k hk (fun e=>hc (hD k hk e)),fun _ _ h=>h,fun _ h=>(h rfl).elim⟩
theorem ChgX.of_below (h:Below w.heap.size w w') (o:Own) (C:Nat->Prop):ChgX C o o w w':=ChgX.of_wr (Wr.of_below h NoB) o (fun _ _ h=>h.elim)
theorem ChgX.none' (h:ChgX C o o' w w') {k:Nat} (hk:k<w.heap.size) (ho:o k=none):o' k=none:=by
 by_cases e:o' k=o k
 ·
  rw[e];exact ho
 ·
  have:=h.new k e;omega
theorem ChgX.trans (h:ChgX C o o' w w') (h':ChgX D o' o'' w' w'') (hD:∀ k,k<w.heap.size->D k->C k):ChgX C o o'' w w'':=by
 refine⟨h'.os.trans h.os,h'.tape.trans h.tape,h'.output.trans h.output,Nat.le_trans h.size h'.size,fun k hk ho hc=>?_,fun k r hr=>h'.ext k r (h.ext k r hr),fun k hk=>?_⟩
 ·
  exact(h'.block k (Nat.lt_of_lt_of_le hk h.size) (h.none' hk ho) (fun e=>hc (hD k hk e))).trans (h.block k hk ho hc)
 ·
  by_cases e:o' k=o k
  ·
   have:=h'.new k (by rw[e];exact hk);exact Nat.le_trans h.size this
  ·
   exact h.new k e
theorem ChgX.cell (h:ChgX C o o' w w') {p:Addr} {v:Value} (hc:w.cell? p=some v) (hb:o p.block=none) (hn:¬ C p.block):w'.cell? p=some v :=
 (World.cell?_of_block (w:=w) (h.block p.block (World.block_lt_of_cell? w p hc) hb hn)).trans hc
theorem ChgX.below0 (h:ChgX NoB (fun _=>none) o w w'):Below w.heap.size w w':=⟨h.os,h.tape,h.output,h.size,fun k hk=>h.block k hk rfl (fun e=>e)⟩
theorem ChgX.lower (h:ChgX C (fun _=>none) o w w') (h':ChgX D o o' w' w'') (hD:∀ k,D k->w.heap.size<=k):ChgX C (fun _=>none) o' w w'':=h.trans h' (fun k hk e=>by have:=hD k e;omega)
end
structure Zhj (C:Nat->Prop) (K:Law) (o:Own) (w:World) (mb:Nat) (m:ManD) (V:Nat->BF) (o':Own) (w':World) (m':ManD) (V':Nat->BF):Prop where
 is:Zd0 (K m'.d V') o' w' mb m'
 lt:Zai o' w'
 chg:ChgX C o o' w w'
 ok:Zaj m'.d V'
 ext:Ext m.d V m'.d V'
 hs:m'.hs=m.hs
 next:m'.next=m.next
theorem Step.toX {K:Law} {o o':Own} {w w':World} {mb:Nat} {m m':ManD} {V V':Nat->BF} (h:Step K o w mb m V o' w' m' V') (C:Nat->Prop):Zhj C K o w mb m V o' w' m' V':=⟨h.is,h.lt,ChgX.of_chg h.chg C,h.ok,h.ext,h.hs,h.next⟩
theorem Zrg {m m':ManD} {V V':Nat->BF} (h:Zbr m) (ext:Ext m.d V m'.d V') (ok:Zaj m'.d V') (e1:m'.hs=m.hs) (e2:m'.next=m.next):Zbr m':=by
 refine⟨by rw[e1];exact h.nodup,by rw[e1];exact h.zero,by rw[e1];exact h.one,by rw[e1,e2];exact h.lt,by rw[e2];exact h.next,fun p hp=>?_,by rw[e1,e2];exact h.len,fun i b hb=>?_⟩
 ·
  rw[e1] at hp;exact ext.ok (h.ok p hp)
 ·
  rw[e1];cases hn:Zaa m.d i with
  | some b0=>rw[ext.ext i b0 hn];exact h.refs i b0 hn
  | none =>
    rw[ext.ext0 i hn];have hi:i≠0:=by rintro rfl;rw[ok.dag.none0] at hb;cases hb
    have:Zbo m.hs i=0:=by
     unfold Zbo;rw[List.length_eq_zero_iff,List.filter_eq_nil_iff];intro p hp;have ho:=h.ok p hp;simp only[Bool.and_eq_true,decide_eq_true_eq,beq_iff_eq,not_and];rintro _ rfl;rcases ho with h0|⟨b1,hb1⟩
     ·
      exact hi h0
     ·
      rw[hn] at hb1;cases hb1
    rw[this];rfl
structure SatE (K:Law) (n:Nat) (Od:List Nat->Prop) (room:Nat) (w0:World) (mb:Nat) (fs:List (Int×BF)) (nx:Int) (w:World) (o:Own) (m:ManD) (V:Nat->BF):Prop where
 is:Zd0 (K m.d V) o w mb m
 lt:Zai o w
 ok:Zvd m V
 vars:m.d.vars.length=n
 od:Od m.d.vars
 room:m.d.pool.room=room
 next:m.next=nx
 hs:m.hs.map (fun p=>(p.1,ef V p.2))=fs
 chg:ChgX NoB (fun _=>none) o w0 w
section
variable {K:Law} {n:Nat} {Od:List Nat->Prop} {room:Nat} {w0 w w':World} {mb:Nat} {fs:List (Int×BF)} {nx:Int} {o o':Own} {m m':ManD} {V V':Nat->BF}
theorem SatE.find (h:SatE K n Od room w0 mb fs nx w o m V) {k:Int} {F:BF} (hk:(k,F)∈fs):∃ f,(k,f)∈m.hs/\ef V f=F:=by
 rw[<- h.hs] at hk;obtain⟨p,hp,e⟩:=List.mem_map.1 hk;cases e;exact⟨p.2,hp,rfl⟩
theorem Ya0 {hs:List (Int×Nat)} {d:Zac} (hok:∀ p∈hs,okE (Zaa d) p.2) (hv:∀ i,(i=0\/∃ b,Zaa d i=some b)->V' i=V i):hs.map (fun p=>(p.1,ef V' p.2))=hs.map (fun p=>(p.1,ef V p.2)):=by
 refine List.map_congr_left fun p hp=>?_
 have e:ef V' p.2=ef V p.2:=by
  funext ρ;unfold ef;rw[hv (p.2/2) (hok p hp)]
 rw[e]
theorem SatE.withOd {Od':List Nat->Prop} (h:SatE K n Od room w0 mb fs nx w o m V) (hO:Od' m.d.vars):SatE K n Od' room w0 mb fs nx w o m V :=
 ⟨h.is,h.lt,h.ok,h.vars,hO,h.room,h.next,h.hs,h.chg⟩
theorem SatE.step {C:Nat->Prop} (h:SatE K n Od room w0 mb fs nx w o m V) (s:Zhj C K o w mb m V o' w' m' V') (hC:∀ k,C k->w0.heap.size<=k):SatE K n Od room w0 mb fs nx w' o' m' V' :=
 ⟨s.is,s.lt,⟨s.ok,Zrg h.ok.handles s.ext s.ok s.hs s.next⟩,by rw[s.ext.vars];exact h.vars,by rw[s.ext.vars];exact h.od,by rw[s.ext.room];exact h.room,s.next.trans h.next,
  by rw[s.hs,Ya0 h.ok.handles.ok s.ext.val];exact h.hs,h.chg.lower s.chg hC⟩
theorem SatE.other {C:Nat->Prop} (h:SatE K n Od room w0 mb fs nx w o m V) (hx:Wr C w w') (hC:∀ k,k<w.heap.size->C k->w0.heap.size<=k/\o k=none):SatE K n Od room w0 mb fs nx w' o m V:=by
 obtain⟨s,hm⟩:=h.is;refine⟨⟨s,hm.keep (fun g r hg=>hx.keep g (h.lt g r hg) (fun e=>?_)) (fun _ _ h=>h)⟩,h.lt.mono hx.size,h.ok,h.vars,h.od,h.room,h.next,h.hs,h.chg.trans (ChgX.of_wr (C:=fun k=>w0.heap.size<=k) hx o (fun k hk e=>(hC k hk e).1)) (fun k hk e=>by omega)⟩;have:=(hC g (h.lt g r hg) e).2;rw[hg] at this;cases this
theorem SatE.below (h:SatE K n Od room w0 mb fs nx w o m V) (hb:Below w.heap.size w w'):SatE K n Od room w0 mb fs nx w' o m V:=h.other (Wr.of_below hb NoB) (fun _ _ e=>e.elim)
theorem SatE.gave (h:SatE K n Od room w0 mb fs nx w o m V) {r:Nat} (g:Gave K o w mb m V r o' w' m'):SatE K n Od room w0 mb (fs++[(nx,ef V r)]) (nx+1) w' o' m' V :=
 ⟨g.is,g.lt,g.ok,by rw[g.vars];exact h.vars,by rw[g.vars];exact h.od,by rw[g.room];exact h.room,by rw[g.next,h.next],by rw[g.hs,List.map_append,h.hs,<- h.next];rfl,h.chg.lower (ChgX.of_chg g.chg NoB) (fun _ e=>e.elim)⟩
theorem Zf3 {d':Zac} (h:Zbr m) (hk:Zaj m.d V) (r:Za2 m.d d'):Zbr { m with d:=d' }:=by
 have hok:∀ p∈m.hs,okE (Zaa d') p.2:=by
  intro p hp;rcases h.ok p hp with h0|⟨b,hb⟩
  ·
   exact .inl h0
  ·
   by_cases h1:1<p.1
   ·
    refine .inr ⟨b,?_⟩;rw[r.nodes,if_pos]
    ·
     exact hb
    ·
     refine hk.live.cnt.pos_of_ext hb ?_;rw[h.refs _ _ hb];have:0<Zbo m.hs (p.2/2):=by
      unfold Zbo;refine List.length_pos_of_mem (List.mem_filter.2 ⟨hp,?_⟩);simp[h1]
     omega
   ·
    refine .inl ?_;have hlt:=h.lt p hp;have hu:∀ q∈m.hs,q.1=p.1->q=p:=by
     intro q hq e;have hnd:=h.nodup;have h1:=Zcg (l:=encH m.hs) (Zd4 hnd) (List.mem_map.2 ⟨q,hq,rfl⟩);have h2:=Zcg (l:=encH m.hs) (Zd4 hnd) (List.mem_map.2 ⟨p,hp,rfl⟩);rw[e,h2] at h1;have e2:(p.2:Int)=(q.2:Int):=by injection h1 with h1;injection h1
     exact Prod.ext e (by omega)
    rcases(by omega:p.1=0\/p.1=1) with e|e
    ·
     rw[<- hu _ h.zero e.symm];rfl
    ·
     rw[<- hu _ h.one e.symm];rfl
 exact⟨h.nodup,h.zero,h.one,h.lt,h.next,hok,h.len,fun i b hb=>by rw[r.ext i b hb];exact h.refs i b (r.sub hb).1⟩
end
theorem wclear {K:Law} {n:Nat} {Od:List Nat->Prop} {room:Nat} {w0 w:World} {mb:Nat} {fs:List (Int×BF)} {nx:Int} {o:Own} {m:ManD} {V:Nat->BF} {s:ManW} (h:SatE K n Od room w0 mb fs nx w o m V) (hs:Zbz (K m.d V) o w mb m s) (G:Phi) :
 Calls Tryz.prog 64 #[.pointer (some ⟨s.me,0,none⟩)] w fun x w'=>x=.returned (.tuple #[])/\Zbz G o w' mb m s/\Chg (· = .entries) o o w w'/\Zai o w':=by
 refine(Zt2 o s.me (K m.d V) G w hs.memo h.lt).mono ?_;rintro x w' ⟨h1,h2,h3,h4⟩;exact⟨h1,hs.setMemo h.lt h2 (h3.mono fun r e=>.inr e),h3,h4⟩
theorem Zg2 {K:Law} {n:Nat} {Od:List Nat->Prop} {room:Nat} {w0 w:World} {mb:Nat} {fs:List (Int×BF)} {nx:Int} {o:Own} {m:ManD} {V:Nat->BF} (h:SatE K n Od room w0 mb fs nx w o m V) :
 Calls Tryz.prog 23 #[.pointer (some ⟨mb,0,none⟩)] w fun x w'=>x=.returned (.int .i64 m.d.dead)/\∃ o' d',SatE K n Od room w0 mb fs nx w' o' { m with d:=d' } V/\Za2 m.d d'/\Chg (fun _=>True) o o' w w':=by
 obtain⟨s,hs⟩:=h.is;obtain⟨c0,c1,c2,c3,c4,c5,f0⟩:=cells6 hs.blk;have HC:Hid (∀ w1,Zbz (fun _ _ _ _ _=>False) o w1 mb m s/\Chg (· = .entries) o o w w1/\Zai o w1->Calls Tryz.prog 65 #[.pointer (some ⟨s.sb,0,none⟩)] w1 fun x w'=>x=.returned (.int .i64 m.d.dead)/\∃ o' d',SatE K n Od room w0 mb fs nx w' o' { m with d:=d' } V/\Za2 m.d d'/\Chg (fun _=>True) o o' w w'):=by
  refine Hd ?_;rintro w1 ⟨g1,g2,g3⟩;have fin:∀ o' w' d',Zbz (fun _ _ _ _ _=>False) o' w' mb { m with d:=d' } s->Zai o' w'->Za2 m.d d'->Chg Zam o o' w1 w'->∃ o' d',SatE K n Od room w0 mb fs nx w' o' { m with d:=d' } V/\Za2 m.d d'/\Chg (fun _=>True) o o' w w':=by
   intro o' w' d' a1 a2 a3 a4;have hc:Chg (fun _=>True) o o' w w':=g2.any.trans a4.any;refine⟨o',d',⟨⟨s,a1.mono fun _ _ _ _ _ e=>e.elim⟩,a2,⟨a3.ok h.ok.store,Zf3 h.ok.handles h.ok.store a3⟩,by dsimp only;rw[a3.vars];exact h.vars,by dsimp only;rw[a3.vars];exact h.od,by dsimp only;rw[a3.room];exact h.room,h.next,h.hs,h.chg.lower (ChgX.of_chg hc NoB) (fun _ e=>e.elim)⟩,a3,hc⟩
  by_cases h0:m.d.dead=0
  ·
   refine(Zhm g1.store h0).mono ?_;rintro x w' ⟨rfl,hb⟩;exact⟨by rw[h0];rfl,fin o w' m.d (g1.below g3 hb) (g3.mono hb.size) (Za2.none h.ok.store h0) (Chg.of_below hb _ _)⟩
  ·
   refine(Zj7 g1.store g3 h.ok.store h0).mono ?_;rintro x w' ⟨rfl,o',d',b1,b2,b3,b4⟩;exact⟨rfl,fin o' w' d' (g1.setStore g3 b1 b4) b2 b3 b4⟩
 have HCL:=Hd (wclear h hs (fun _ _ _ _ _=>False));clear h hs
 go_enter Tryz.func23,Tryz.ntmps23
 go_wp2_with fail;refine HCL.out.mono ?_;rintro x w1 ⟨rfl,g1,g2,g3⟩;obtain⟨d0,d1,d2,d3,d4,d5,f1⟩:=cells6 g1.blk;have HC1:=Hd (HC.out w1 ⟨g1,g2,g3⟩);clear g1 g2 g3 c0 c1 c2 c3 c4 c5 f0 HCL HC;go_wp2_with fail;refine HC1.out.mono ?_;rintro x w2 ⟨rfl,hq⟩;have HQ:=Hd hq;clear hq;go_wp2_with fail;go_ret;exact⟨rfl,HQ.out⟩
open Go.RowKit
def HapG (K:Law) (n:Nat) (Od:List Nat->Prop) (room:Nat) (w0:World) (mb:Nat) (fs:List (Int×BF)) (nx:Int) (ev:Ev):Prop :=
 ∀ (o:Own) (W:World) (m:ManD) (V:Nat->BF),SatE K n Od room w0 mb fs nx W o m V->Calls Tryz.prog 129 #[.pointer (some ⟨mb,0,none⟩),evA ev] W fun x w'=>x=.returned (.tuple #[]) /\
  ∃ o' m' V',SatE K n Od room w0 mb fs nx w' o' m' V'/\m'.waits=m.waits/\m'.calls=m.calls/\(m'.d.pool.many<=m.d.pool.many\/m'.d.pool.many<=fs.length*2^n)/\ChgX NoB o o' W w'
def StE (K:Law) (n:Nat) (Od:List Nat->Prop) (room:Nat) (w0:World) (mb:Nat) (fs:List (Int×BF)) (nx:Int) (St:ManD->Prop) (m':ManD):Prop :=
 ∀ (o:Own) (W:World) (m:ManD) (V:Nat->BF),SatE K n Od room w0 mb fs nx W o m V->m.waits=m'.waits->m.calls=m'.calls->(m.d.pool.many<=m'.d.pool.many\/m.d.pool.many<=fs.length*2^n)->St m
def OpG (K:Law) (n:Nat) (Od:List Nat->Prop) (room:Nat) (w0:World) (mb:Nat) (fs:List (Int×BF)) (nx:Int) (C:Nat->Prop) (B:World->Prop) (St:ManD->Prop) (gop:Nat) (lop:Array Value) (Q:World->ManD->(Nat->BF)->Nat->Prop) (E:Int->ManD->ManD->Prop):Prop :=
 ∀ (o:Own) (W:World) (m:ManD) (V:Nat->BF) (xb:Nat),SatE K n Od room w0 mb fs nx W o m V->B W->(∀ k,C k->k<W.heap.size/\o k=none)->St m->Zer o W xb mb->¬ C xb ->
  Calls Tryz.prog gop (#[.pointer (some ⟨xb,0,none⟩)]++lop) W fun e w'=>∃ (o':Own) (m':ManD) (V':Nat->BF),Zhj C K o W mb m V o' w' m' V'/\B w' /\
   ((∃ r:Nat,e=.returned (.int .i64 r)/\okE (Zaa m'.d) r/\Q w' m' V' r) \/
    (∃ er:Int,e=Zb8 er false ev0/\er≠0/\m'.waits=m.waits/\St m'/\E er m m') \/
    (∃ ev,e=Zb8 0 true ev/\m.waits=ev::m'.waits/\StE K n Od room w0 mb fs nx St m'/\HapG K n Od room w0 mb fs nx ev))
theorem Ybr (gop:Nat) (lop:Array Value) (W:World) (xb ob fb:Nat) (R:Nat->World->Prop) (R2:Int->Bool->Ev->World->Prop) (eg:∀ args w,(callFunc gop args).run Tryz.prog w=.ok (.enter gop args) w)
 (hob:W.cell? ⟨ob,0,none⟩=some (.func (.func gop) #[] lop)) (hop:Calls Tryz.prog gop (#[.pointer (some ⟨xb,0,none⟩)]++lop) W fun e w'=>(∃ r:Nat,e=.returned (.int .i64 r)/\R r w'/\(∃ z:Int,w'.cell? ⟨fb,0,none⟩=some (.int .i64 z))/\w'.frozen? ⟨fb,0,none⟩=false) \/
  ∃ er evt ev,e=Zb8 er evt ev/\R2 er evt ev w') :
 Calls Tryz.prog 97 #[.pointer (some ⟨xb,0,none⟩),.pointer (some ⟨ob,0,none⟩),.pointer (some ⟨fb,0,none⟩)] W fun e w'=>(e=.returned (.tuple #[])/\∃ r w1,R r w1/\w'=w1.setCell ⟨fb,0,none⟩ (.int .i64 (r:Nat)))\/∃ er evt ev,e=Zb8 er evt ev/\R2 er evt ev w':=by
 have HOP:=Hd hop;clear hop
 go_enter Tryz.func97,Tryz.ntmps97
 go_wp2_with fail;refine HOP.out.mono ?_;rintro e w' (⟨r,rfl,hr,⟨z,hc⟩,hf⟩|⟨er,evt,ev,rfl,hr⟩)
 ·
  have HR:=Hd hr;clear hr;go_wp2_with fail;go_end0;exact .inl ⟨rfl,r,w',HR.out,rfl⟩
 ·
  have HR:=Hd hr;clear hr;unfold Zb8;go_wp2_with fail;exact⟨rfl,.inr ⟨er,evt,ev,rfl,HR.out⟩⟩
structure RunI (K:Law) (n:Nat) (Od:List Nat->Prop) (room:Nat) (w0:World) (mb:Nat) (fs:List (Int×BF)) (nx:Int) (C:Nat->Prop) (B:World->Prop) (St:ManD->Prop) (gop:Nat) (lop:Array Value) (o0:Own) (w:World) (k:Nat) (full:Bool) (W:World) (o:Own) (m:ManD) (V:Nat->BF):Prop where
 sat:SatE K n Od room w0 mb fs nx W o m V
 bok:B W
 st:St m
 len:m.waits.length=k
 cok:∀ c,C c->c<w.heap.size/\o c=none
 chg:ChgX C o0 o w W
 size:w.heap.size+2<=W.heap.size
 obn:o w.heap.size=none
 fbn:o (w.heap.size+1)=none
 ob:W.heap[w.heap.size]?=some (.cells #[.func (.func gop) #[] lop] 118 (0,0))
 fb:∃ z:Int,W.heap[w.heap.size+1]?=some (.cells #[.int .i64 z] 83 (0,0))
 clean:full=true->m.d.dead=0
def RunF (K:Law) (n:Nat) (Od:List Nat->Prop) (room:Nat) (w0:World) (mb:Nat) (fs:List (Int×BF)) (nx:Int) (C:Nat->Prop) (B:World->Prop) (Q:World->ManD->(Nat->BF)->Nat->Prop) (E:Int->ManD->ManD->Prop) (o0:Own) (w:World) (er:Int) (W:World):Prop :=
 ∃ o m V,SatE K n Od room w0 mb fs nx W o m V/\B W/\ChgX C o0 o w W/\w.heap.size+2<=W.heap.size/\o (w.heap.size+1)=none /\
  ((er=0/\∃ r:Nat,okE (Zaa m.d) r/\Q W m V r/\W.heap[w.heap.size+1]?=some (.cells #[.int .i64 r] 83 (0,0))) \/
   (er≠0/\∃ m0:ManD,E er m0 m/\(er=7->m0.d.dead=0)))
theorem Ybs {K:Law} {n:Nat} {Od:List Nat->Prop} {room:Nat} {w0:World} {mb:Nat} {fs:List (Int×BF)} {nx:Int} {C:Nat->Prop} {B:World->Prop} {St:ManD->Prop} {gop:Nat} {lop:Array Value} {Q:World->ManD->(Nat->BF)->Nat->Prop} {E:Int->ManD->ManD->Prop}
 (hB:∀ W W',B W->(∀ c,C c->W'.heap[c]?=W.heap[c]?)->B W') (hQ:∀ W W' m V r,Q W m V r->(∀ c,C c->W'.heap[c]?=W.heap[c]?)->Q W' m V r) (hSt:∀ (m:ManD) (d:Zac),St m->Za2 m.d d->St { m with d:=d }) (hC0:∀ c,C c->w0.heap.size<=c) (eg:∀ args w,(callFunc gop args).run Tryz.prog w=.ok (.enter gop args) w)
 (hop:OpG K n Od room w0 mb fs nx C B St gop lop Q E) {o:Own} {w:World} {m:ManD} {V:Nat->BF} (h:SatE K n Od room w0 mb fs nx w o m V) (hb:B w) (hC:∀ c,C c->c<w.heap.size/\o c=none) (hst:St m) :
 Calls Tryz.prog 96 #[.pointer (some ⟨mb,0,none⟩),.func (.func 97) #[] #[.pointer (some ⟨w.heap.size,0,none⟩),.pointer (some ⟨w.heap.size+1,0,none⟩)]] (doW gop lop w) fun x w'=>∃ er,x=.returned (.int .i64 er)/\RunF K n Od room w0 mb fs nx C B Q E o w er w':=by
 have hz:(doW gop lop w).heap.size=w.heap.size+2:=by simp[doW]
 have hbd:Below w.heap.size w (doW gop lop w):=(Zaf w _).alloc (by simp) _;have hfb:(doW gop lop w).heap[w.heap.size+1]?=some (.cells #[.int .i64 0] 83 (0,0)):=by
  have:=heap_alloc_new (w.alloc (.cells #[.func (.func gop) #[] lop] 118)) (.cells #[.int .i64 0] 83);rw[World.size_alloc] at this;exact this
 have hob:(doW gop lop w).heap[w.heap.size]?=some (.cells #[.func (.func gop) #[] lop] 118 (0,0)):=(Go.heap_alloc_old _ _ (by simp)).trans (heap_alloc_new w _);have hw0:=h.chg.size;have hstart:RunI K n Od room w0 mb fs nx C B St gop lop o w m.waits.length false (doW gop lop w) o m V :=
  ⟨h.below hbd,hB _ _ hb (fun c hc=>hbd.block c (hC c hc).1),hst,rfl,hC,ChgX.of_below hbd o C,by omega,h.lt.none (Nat.le_refl _),h.lt.none (by omega),hob,⟨0,hfb⟩,by simp⟩
 have hother:∀ {k full W W' o1 m1 V1},RunI K n Od room w0 mb fs nx C B St gop lop o w k full W o1 m1 V1->∀ {s:Nat},w.heap.size+2<=s->o1 s=none->o1 (s+1)=none->Ali s W W'->RunI K n Od room w0 mb fs nx C B St gop lop o w k full W' o1 m1 V1:=by
  intro k full W W' o1 m1 V1 hi s hs n0 n1 a;have hsz:=hi.size;have hk:∀ k,k<w.heap.size+2->W'.heap[k]?=W.heap[k]?:=fun k hk=>a.keep k (by omega) (by omega)
  refine⟨hi.sat.other a (fun k _ e=>?_),hB _ _ hi.bok (fun c hc=>hk c (by have:=(hi.cok c hc).1;omega)),hi.st,hi.len,hi.cok,hi.chg.trans (ChgX.of_wr (C:=fun k=>w.heap.size<=k) a o1 (fun k _ e=>by omega)) (fun k hk e=>by omega),Nat.le_trans hi.size a.size,hi.obn,hi.fbn,(hk _ (by omega)).trans hi.ob,?_,hi.clean⟩
  ·
   rcases e with rfl|rfl
   ·
    exact⟨by omega,n0⟩
   ·
    exact⟨by omega,n1⟩
  ·
   obtain⟨z,hz⟩:=hi.fb;exact⟨z,(hk _ (by omega)).trans hz⟩
 have hnext:∀ {k full full' W W' o1 m1 V1 o2 m2 V2},RunI K n Od room w0 mb fs nx C B St gop lop o w k full W o1 m1 V1->SatE K n Od room w0 mb fs nx W' o2 m2 V2->ChgX NoB o1 o2 W W'->m2.waits=m1.waits->St m2->(full'=true->m2.d.dead=0)->RunI K n Od room w0 mb fs nx C B St gop lop o w k full' W' o2 m2 V2:=by
  intro k full full' W W' o1 m1 V1 o2 m2 V2 hi hsat hc e1 e2 e3;have hsz:=hi.size;obtain⟨z,hz⟩:=hi.fb
  exact⟨hsat,hB _ _ hi.bok (fun c hc'=>hc.block c (by have:=(hi.cok c hc').1;omega) (hi.cok c hc').2 (fun e=>e)),e2,by rw[e1];exact hi.len,fun c hc'=>⟨(hi.cok c hc').1,hc.none' (by have:=(hi.cok c hc').1;omega) (hi.cok c hc').2⟩,
   hi.chg.trans hc (fun _ _ e=>e.elim),Nat.le_trans hi.size hc.size,hc.none' (by omega) hi.obn,hc.none' (by omega) hi.fbn,(hc.block _ (by omega) hi.obn (fun e=>e)).trans hi.ob,⟨z,(hc.block _ (by omega) hi.fbn (fun e=>e)).trans hz⟩,e3⟩
 refine Zx2 mb _ _ _ Zt7 (fun k full W=>∃ o1 m1 V1,RunI K n Od room w0 mb fs nx C B St gop lop o w k full W o1 m1 V1) _ ?_ _ ⟨o,m,V,hstart⟩;rintro k full W ⟨o1,m1,V1,hi⟩;have hsz:=hi.size;obtain⟨s,hs⟩:∃ s,s=W.heap.size:=⟨_,rfl⟩
 refine⟨fun st W1=>match st with
  | none=>∃ (o':Own) (m':ManD) (V':Nat->BF) (r:Nat) (w1:World),SatE K n Od room w0 mb fs nx w1 o' m' V'/\B w1/\ChgX C o o' w w1/\s+3<=w1.heap.size/\(∀ q,w.heap.size<=q->q<s+3->o1 q=none->o' q=none)/\(∃ z:Int,w1.heap[w.heap.size+1]?=some (.cells #[.int .i64 z] 83 (0,0)))/\okE (Zaa m'.d) r/\Q w1 m' V' r/\W1=w1.setCell ⟨w.heap.size+1,0,none⟩ (.int .i64 (r:Nat))
  | some (er,evt,ev)=>∃ (o':Own) (m':ManD) (V':Nat->BF),RunI K n Od room w0 mb fs nx C B St gop lop o w m'.waits.length false W1 o' m' V'/\s+3<=W1.heap.size/\(∀ q,w.heap.size<=q->q<s+3->o1 q=none->o' q=none) /\
   ((evt=false/\er≠0/\m'.waits=m1.waits/\E er m1 m')\/(evt=true/\m1.waits=ev::m'.waits/\StE K n Od room w0 mb fs nx St m'/\HapG K n Od room w0 mb fs nx ev)),?_,?_,?_,?_,?_⟩
 ·
  unfold Zvi;have hbt:Below W.heap.size W (tryW mb W):=((Zaf _ _).alloc (by simp) _).alloc (by simp;omega) _;have hzt:(tryW mb W).heap.size=W.heap.size+3:=by unfold tryW;simp
  obtain⟨T,hT⟩:∃ T,T=tryW mb W:=⟨_,rfl⟩;have h1:(tryW mb W).heap[W.heap.size+2]?=some (.cells #[.pointer (some ⟨mb,0,none⟩)] 174 (0,0)):=by
   have:=heap_alloc_new ((W.alloc (.cells #[.int .i64 0,.bool false,.int .i64 0,.int .i64 0,.int .i64 0] 178)).alloc (.cells #[.bool false] 4)) (.cells #[.pointer (some ⟨mb,0,none⟩)] 174);rw[World.size_alloc,World.size_alloc] at this;exact this
  rw[<- hT] at hbt hzt h1 ⊢;clear hT;have hsatT:=hi.sat.below hbt;have hcx:Zer o1 T (W.heap.size+2) mb:=⟨cell1 h1,hi.sat.lt.none (by omega)⟩;have hopT:=hop o1 T m1 V1 (W.heap.size+2) hsatT (hB _ _ hi.bok (fun c hc=>hbt.block c (by have:=(hi.cok c hc).1;omega))) (fun c hc=>⟨by have:=(hi.cok c hc).1;omega,(hi.cok c hc).2⟩) hi.st hcx (fun e=>by have:=(hi.cok _ e).1;omega);have hobT:=(hbt.block w.heap.size (by omega)).trans hi.ob;obtain⟨z,hz⟩:=hi.fb;have hfbT:=(hbt.block (w.heap.size+1) (by omega)).trans hz;have hC':∀ q,w.heap.size<=q->¬ C q:=fun q hq e=>by have:=(hi.cok q e).1;omega
  have hkeep:∀ {o':Own} {w1:World},ChgX C o1 o' T w1->∀ q,w.heap.size<=q->q<s+3->o1 q=none->w1.heap[q]?=T.heap[q]?:=fun hc q h1 h2 h3=>hc.block q (by omega) h3 (hC' q h1)
  refine(Ybr gop lop T (W.heap.size+2) w.heap.size (w.heap.size+1) (fun r w1=>∃ o' m' V',Zhj C K o1 T mb m1 V1 o' w1 m' V'/\B w1/\okE (Zaa m'.d) r/\Q w1 m' V' r)
   (fun er evt ev w1=>∃ o' m' V',Zhj C K o1 T mb m1 V1 o' w1 m' V'/\B w1/\((evt=false/\er≠0/\m'.waits=m1.waits/\St m'/\E er m1 m')\/(evt=true/\m1.waits=ev::m'.waits/\StE K n Od room w0 mb fs nx St m'/\HapG K n Od room w0 mb fs nx ev))) eg (cell1 hobT) (hopT.mono ?_)).mono ?_
  ·
   rintro e w1 ⟨o',m',V',st,b1,(⟨r,rfl,q1,q2⟩|⟨er,rfl,q1,q2,q3,q4⟩|⟨ev,rfl,q1,q2,q3⟩)⟩
   ·
    have hf:=(hkeep st.chg (w.heap.size+1) (by omega) (by omega) hi.fbn).trans hfbT;exact .inl ⟨r,rfl,⟨o',m',V',st,b1,q1,q2⟩,⟨z,cell1 hf⟩,by simp[World.frozen?,hf]⟩
   ·
    exact .inr ⟨er,false,ev0,rfl,o',m',V',st,b1,.inl ⟨rfl,q1,q2,q3,q4⟩⟩
   ·
    exact .inr ⟨0,true,ev,rfl,o',m',V',st,b1,.inr ⟨rfl,q1,q2,q3⟩⟩
  ·
   have n0:o1 W.heap.size=none:=hi.sat.lt.none (Nat.le_refl _);have n1:o1 (W.heap.size+1)=none:=hi.sat.lt.none (by omega);rintro e W' (⟨rfl,r,w1,⟨o',m',V',st,b1,q1,q2⟩,rfl⟩|⟨er,evt,ev,rfl,o',m',V',st,b1,q⟩)
   ·
    have hf:=(hkeep st.chg (w.heap.size+1) (by omega) (by omega) hi.fbn).trans hfbT;have hsz1:=st.chg.size;refine⟨by simp[World.setCell];omega,?_,?_,.inl ⟨rfl,o',m',V',r,w1,hsatT.step st hC0,b1,(hi.chg.trans (ChgX.of_below hbt o1 C) (fun _ _ e=>e)).trans st.chg (fun _ _ e=>e),by omega,fun q _ h2 h3=>st.chg.none' (by omega) h3,⟨z,hf⟩,q1,q2,rfl⟩⟩
    ·
     exact(Zad (by show _≠w.heap.size+1;omega) _).trans (hkeep st.chg _ (by omega) (by omega) n0)
    ·
     exact(Zad (by show _≠w.heap.size+1;omega) _).trans (hkeep st.chg _ (by omega) (by omega) n1)
   ·
    have hsz1:=st.chg.size;have b2:St m':=by
     rcases q with ⟨_,_,_,q,_⟩|⟨_,_,q,_⟩
     ·
      exact q
     ·
      exact q _ _ _ _ (hsatT.step st hC0) rfl rfl (.inl (Nat.le_refl _))
    have hc1:=(hi.chg.trans (ChgX.of_below hbt o1 C) (fun _ _ e=>e)).trans st.chg (fun _ _ e=>e);refine⟨by omega,hkeep st.chg _ (by omega) (by omega) n0,hkeep st.chg _ (by omega) (by omega) n1,.inr ⟨er,evt,ev,rfl,o',m',V',?_,by omega,fun q _ h2 h3=>st.chg.none' (by omega) h3,q.imp (fun⟨a1,a2,a3,_,a4⟩=>⟨a1,a2,a3,a4⟩) id⟩⟩
    exact⟨hsatT.step st hC0,b1,b2,rfl,fun c hc=>⟨(hi.cok c hc).1,st.chg.none' (by have:=(hi.cok c hc).1;omega) (hi.cok c hc).2⟩,hc1,by omega,st.chg.none' (by omega) hi.obn,st.chg.none' (by omega) hi.fbn,
     (hkeep st.chg _ (by omega) (by omega) hi.obn).trans hobT,⟨z,(hkeep st.chg (w.heap.size+1) (by omega) (by omega) hi.fbn).trans hfbT⟩,by simp⟩
 ·
  rintro W1 W2 ⟨o',m',V',r,w1,a1,a2,a3,a4,a5,⟨z,a6⟩,a7,a8,rfl⟩ al;have hwr:Wr (fun k=>k=w.heap.size+1\/k=s\/k=s+1) w1 W2:=Wr.trans ((Wr.refl (fun k=>k=w.heap.size+1) w1).setCell (p:=⟨w.heap.size+1,0,none⟩) (.inl rfl) _) al (fun k _ e=>.inl e) (fun k _ e=>.inr (by rw[hs];exact e));have n0:o' s=none:=a5 s (by omega) (by omega) (by rw[hs];exact hi.sat.lt.none (Nat.le_refl _));have n1:o' (s+1)=none:=a5 (s+1) (by omega) (by omega) (by rw[hs];exact hi.sat.lt.none (by omega));have nf:o' (w.heap.size+1)=none:=a5 _ (by omega) (by omega) hi.fbn;have hf:=(al.keep (w.heap.size+1) (by simp[World.setCell];omega) (by omega)).trans (Zae a6 _);refine⟨o',m',V',a1.other hwr (fun k _ e=>?_),hB _ _ a2 (fun c hc=>hwr.keep c (by have:=(hi.cok c hc).1;omega) (by have:=(hi.cok c hc).1;omega)),a3.trans (ChgX.of_wr (C:=fun k=>w.heap.size<=k) hwr o' (fun k _ e=>by omega)) (fun k hk e=>by omega),by have:=hwr.size;omega,nf,.inl ⟨rfl,r,a7,hQ _ _ _ _ _ a8 (fun c hc=>hwr.keep c (by have:=(hi.cok c hc).1;omega) (by have:=(hi.cok c hc).1;omega)),hf⟩⟩;rcases e with rfl|rfl|rfl
  ·
   exact⟨by omega,nf⟩
  ·
   exact⟨by omega,n0⟩
  ·
   exact⟨by omega,n1⟩
 ·
  rintro er ev W1 W2 ⟨o',m',V',hi',a4,a5,(⟨h1,_⟩|⟨_,hev,hvs,hap⟩)⟩ al
  ·
   cases h1
  rw[<- hs] at al;have n0:o' s=none:=a5 s (by omega) (by omega) (by rw[hs];exact hi.sat.lt.none (Nat.le_refl _));have n1:o' (s+1)=none:=a5 (s+1) (by omega) (by omega) (by rw[hs];exact hi.sat.lt.none (by omega));have hi2:=hother hi' (by omega) n0 n1 al;refine(hap o' W2 m' V' hi2.sat).mono ?_;rintro x w' ⟨rfl,o2,m2,V2,g1,g2,g3,g5,g4⟩;refine⟨rfl,m'.waits.length,by rw[<- hi.len,hev];simp,o2,m2,V2,hnext hi2 g1 g4 g2 (hvs _ _ _ _ g1 g2 g3 g5) (by simp)⟩
 ·
  rintro ev W1 W2 ⟨o',m',V',hi',a4,a5,(⟨_,_,hw,_⟩|⟨h1,_⟩)⟩ al hfull
  ·
   rw[<- hs] at al;have n0:o' s=none:=a5 s (by omega) (by omega) (by rw[hs];exact hi.sat.lt.none (Nat.le_refl _));have n1:o' (s+1)=none:=a5 (s+1) (by omega) (by omega) (by rw[hs];exact hi.sat.lt.none (by omega));have hi2:=hother hi' (by omega) n0 n1 al;refine(Zg2 hi2.sat).mono ?_;rintro x w' ⟨rfl,o2,d2,g1,g2,g3⟩;have hi3:=hnext (full':=true) hi2 g1 (ChgX.of_chg g3 NoB) rfl (hSt _ _ hi2.st g2) (fun _=>g2.dead);rw[hw,hi.len] at hi3;exact⟨⟨_,rfl⟩,o2,_,V',hi3⟩
  ·
   cases h1
 ·
  rintro er ev W1 W2 ⟨o',m',V',hi',a4,a5,(⟨_,h0,hw,hE⟩|⟨h1,_⟩)⟩ al hne
  ·
   rw[<- hs] at al;have n0:o' s=none:=a5 s (by omega) (by omega) (by rw[hs];exact hi.sat.lt.none (Nat.le_refl _));have n1:o' (s+1)=none:=a5 (s+1) (by omega) (by omega) (by rw[hs];exact hi.sat.lt.none (by omega));have hi2:=hother hi' (by omega) n0 n1 al;refine⟨o',m',V',hi2.sat,hi2.bok,hi2.chg,hi2.size,hi2.fbn,.inr ⟨h0,m1,hE,fun e7=>hi.clean ?_⟩⟩;cases full with
   | true=>rfl
   | false=>exact(hne ⟨e7,rfl⟩).elim
  ·
   cases h1
def Zva (K:Law) (n:Nat) (Od:List Nat->Prop) (room:Nat) (w0:World) (mb:Nat) (fs:List (Int×BF)) (nx:Int) (C:Nat->Prop) (B:World->Prop) (Q:World->ManD->(Nat->BF)->Nat->Prop) (E:Int->ManD->ManD->Prop) (o:Own) (w:World) (x:Ending) (w':World):Prop :=
 ∃ o' m' V',B w'/\ChgX C o o' w w' /\
  ((∃ r m1,x=.returned (.tuple #[.int .i64 nx,.int .i64 0])/\SatE K n Od room w0 mb (fs++[(nx,ef V' r)]) (nx+1) w' o' m' V'/\Q w' m1 V' r/\okE (Zaa m1.d) r/\Zaa m'.d=Zaa m1.d/\m'.d.vars=m1.d.vars/\m'.d.level=m1.d.level/\m'.d.pool.many=m1.d.pool.many/\m'.waits=m1.waits/\m'.calls=m1.calls) \/
   (∃ er m0,er≠0/\x=.returned (.tuple #[.int .i64 0,.int .i64 er])/\SatE K n Od room w0 mb fs nx w' o' m' V'/\E er m0 m'/\(er=7->m0.d.dead=0)))
theorem Zwc {K:Law} (hK:Zc8 K) {n:Nat} {Od:List Nat->Prop} {room:Nat} {w0:World} {mb:Nat} {fs:List (Int×BF)} {nx:Int} {C:Nat->Prop} {B:World->Prop} {St:ManD->Prop} {gop:Nat} {lop:Array Value} {Q:World->ManD->(Nat->BF)->Nat->Prop} {E:Int->ManD->ManD->Prop}
 (hB:∀ W W',B W->(∀ c,C c->W'.heap[c]?=W.heap[c]?)->B W') (hQ:∀ W W' m V r,Q W m V r->(∀ c,C c->W'.heap[c]?=W.heap[c]?)->Q W' m V r) (hSt:∀ (m:ManD) (d:Zac),St m->Za2 m.d d->St { m with d:=d }) (hC0:∀ c,C c->w0.heap.size<=c) (eg:∀ args w,(callFunc gop args).run Tryz.prog w=.ok (.enter gop args) w)
 (hop:OpG K n Od room w0 mb fs nx C B St gop lop Q E) {o:Own} {w:World} {m:ManD} {V:Nat->BF} (h:SatE K n Od room w0 mb fs nx w o m V) (hb:B w) (hC:∀ c,C c->c<w.heap.size/\o c=none) (hst:St m) (hn:nx<1099511627776) :
 Calls Tryz.prog 53 #[.pointer (some ⟨mb,0,none⟩),.func (.func gop) #[] lop] w (Zva K n Od room w0 mb fs nx C B Q E o w):=by
 have hmf:∀ (fn:Fn) (first cap:Array Value) (w:World),(Instr.makeFunc fn first cap).run Tryz.prog w=.ok (.func fn first cap) w:=fun _ _ _ _=>rfl
 have HRUN:=Hd (Ybs hB hQ hSt hC0 eg hop h hb hC hst);have HLAW:=Hd hK;have HHB:=Hd hB;have HHQ:=Hd hQ;have HNX:=Hd hn;have HCOK:=Hd hC;have hnf:=Yc3 (w.alloc (.cells #[.func (.func gop) #[] lop] 118)) (.func gop) #[] lop;have HW:Hid ((w.alloc (.cells #[.func (.func gop) #[] lop] 118)).alloc (.cells #[.int .i64 0] 83)=doW gop lop w):=Hd rfl;clear h hb hK hB hQ hSt hC0 hop hC hst hn
 go_enter Tryz.func53,Tryz.ntmps53
 go_wp2_with fail;rw[HW.out];refine HRUN.out.mono ?_;rintro x w1 ⟨er,rfl,o1,m1,V1,sat,b1,hc1,hsz1,hnf1,(⟨rfl,r,hr,hq,hcf0⟩|⟨h0,m0,hE,h7⟩)⟩
 rotate_left
 ·
  have HF:Hid (Zva K n Od room w0 mb fs nx C B Q E o w (.returned (.tuple #[.int .i64 0,.int .i64 er])) w1):=Hd ⟨o1,m1,V1,b1,hc1,.inr ⟨er,m0,h0,rfl,sat,hE,h7⟩⟩;have h00:(er == 0)=false:=by simpa using h0
  clear h0 hE h7 sat b1 hc1 hsz1 hnf1 HRUN HW;go_wp2_with fail
  go_ret2
  exact HF.out
 have hcf:=cell1 hcf0;obtain⟨s1,hm1⟩:=sat.is;obtain⟨c0,c1,c2,c3,c4,c5,f0⟩:=cells6 hm1.blk;obtain⟨ss,hss⟩:=hm1.store;have hrlt:r<eMax:=by have:=hss.edge_lt hr;unfold eMax;omega
 have HIS:Hid (Calls Tryz.prog 98 #[.pointer (some ⟨s1.sb,0,none⟩),.int .i64 r] w1.drew fun x w'=>x=.returned (.bool true)/\Below w1.heap.size w1 w'):=by
  have h1:=Zdn (hss.below sat.lt (Zah w1 1)) (sat.lt.mono (Zah w1 1).size) r hrlt;rw[Yc6 hr] at h1;exact Hd (h1.mono fun x w' ⟨a,b⟩=>⟨a,Zg8 (n:=1) b⟩)
 have HST:=Hd sat;have HR:=Hd hr;have HQ:=Hd hq;have HB1:=Hd b1;have HC1:=Hd hc1;have HN1:=Hd hnf1;have lmb:mb<w1.heap.size:=Zab c0;have lfb:w.heap.size+1<w1.heap.size:=Zab hcf;clear sat hm1 hss hr hq b1 hc1 hnf1 hsz1 HRUN HW;go_upto_region 9 with fail;refine Zey (fun W:World=>Below w1.heap.size w1 W) 7 (by kernel_rfl) (Zah w1 1) ?_;refine Zbf 0 rfl rfl (by kernel_rfl) ?_;apply Exists.intro;refine⟨fun w' hw=>?_,?_⟩
 ·
  have q1:=(hw.cell (p:=⟨mb,0,none⟩) lmb).trans c0;have q2:=(hw.cell (p:=⟨w.heap.size+1,0,none⟩) lfb).trans hcf;go_simp;rfl
 simp only[Zag];refine Zbf 1 rfl rfl (by kernel_rfl) ?_;apply Exists.intro;refine⟨fun w' hw=>?_,?_⟩
 ·
  have q1:=(hw.cell (p:=⟨mb,0,none⟩) lmb).trans c0;have q2:=(hw.cell (p:=⟨w.heap.size+1,0,none⟩) lfb).trans hcf;go_simp;rfl
 simp only[Zag];refine Zbf 2 rfl rfl (by kernel_rfl) ?_;apply Exists.intro;refine⟨fun w' hw=>?_,?_⟩
 ·
  have q1:=(hw.cell (p:=⟨mb,0,none⟩) lmb).trans c0;have q2:=(hw.cell (p:=⟨w.heap.size+1,0,none⟩) lfb).trans hcf;go_simp;rfl
 simp only[Zag];refine Zbf 3 rfl rfl (by kernel_rfl) ?_;apply Exists.intro;refine⟨fun w' hw=>?_,?_⟩
 ·
  have q1:=(hw.cell (p:=⟨mb,0,none⟩) lmb).trans c0;have q2:=(hw.cell (p:=⟨w.heap.size+1,0,none⟩) lfb).trans hcf;go_simp;rfl
 simp only[Zag];refine Zbf 4 rfl rfl (by kernel_rfl) ?_;apply Exists.intro;refine⟨fun w' hw=>?_,?_⟩
 ·
  have q1:=(hw.cell (p:=⟨mb,0,none⟩) lmb).trans c0;have q2:=(hw.cell (p:=⟨w.heap.size+1,0,none⟩) lfb).trans hcf;go_simp;rfl
 simp only[Zag];refine Zdv [5] (by kernel_rfl) (fun i hi hS o ho=>?_);simp only[Zhu] at hi;subst hi;simp only[Zg7] at ho;subst ho;refine⟨rfl,?_⟩;refine Zb7 (v:=.bool true) (R:=fun w'=>Below w1.heap.size w1 w') (by go_simp) HIS.out ?_;rintro w2 hb2;refine⟨hb2,?_⟩;simp only[Zag];have hcf2:=(hb2.cell (p:=⟨w.heap.size+1,0,none⟩) lfb).trans hcf;have d0:=(hb2.cell (p:=⟨mb,0,none⟩) lmb).trans c0;have HST2:=Hd (HST.out.below hb2);refine Zbf 6 rfl rfl (by kernel_rfl) ?_;apply Exists.intro;refine⟨fun w' hw=>?_,?_⟩
 ·
  have q1:=(hw.cell (p:=⟨mb,0,none⟩) lmb).trans c0;have q2:=(hw.cell (p:=⟨w.heap.size+1,0,none⟩) lfb).trans hcf;go_simp;rfl
 simp only[Zag];have hb2':=hb2;clear c0 c1 c2 c3 c4 c5 f0 hcf hcf0 hb2;refine Zjn (by kernel_rfl) ?_;have HG:=Hd (Znc HLAW.out HST2.out.is HST2.out.lt HST2.out.ok r HR.out (by rw[HST2.out.next];exact HNX.out));have HB2:=Hd hb2';clear hb2';go_wp2_with fail;refine HG.out.mono ?_;rintro x w3 ⟨rfl,o3,m3,hg⟩;have HGV:=Hd hg;have HNX:Hid (m1.next=nx):=Hd HST2.out.next
 clear hg;go_wp2_with fail
 go_ret2
 have hlt2:=HST2.out.lt;have hkc:∀ c,C c->w3.heap[c]?=w1.heap[c]?:=fun c hc=>by
  have h1:=(HCOK.out c hc).1;have h2:=HC1.out.size;have h3:=HB2.out.size;exact(HGV.out.chg.alien (by omega) (HC1.out.none' h1 (HCOK.out c hc).2)).trans (HB2.out.block c (by omega))
 refine⟨o3,m3,V1,HHB.out _ _ HB1.out hkc,(HC1.out.trans (ChgX.of_below HB2.out o1 C) (fun _ _ e=>e)).trans (ChgX.of_chg HGV.out.chg C) (fun _ _ e=>e),.inl ⟨r,m1,by rw[<- HNX.out];rfl,HST2.out.gave HGV.out,HHQ.out _ _ _ _ _ HQ.out hkc,HR.out,HGV.out.nodes,HGV.out.vars,HGV.out.level,HGV.out.many,HGV.out.waits,HGV.out.calls⟩⟩
open Go.RowKit
section
variable {P:Program} {S:World->Prop} {Q:Exit->Act->World->Prop} {R:List PanicEntry->World->Prop} {m:Nat}
def PP (R:List PanicEntry->World->Prop) (Q:Exit->Act->World->Prop):Exit->Act->World->Prop
 | .panic c,a,w=>a.defers=[]/\R c w
 | e,a,w=>Q e a w
theorem Zuu (a:Act) (d:Option Nat) (v:Value):(a.put d v).defers=a.defers:=by cases d<;>rfl
theorem Zxu (c:List PanicEntry) (a:Act) (d:Option Nat) (v:Value) (w:World) (h:PP R Q (.panic c) (a.put d v) w):PP R Q (.panic c) a w:=⟨(Zuu a d v).symm.trans h.1,h.2⟩
theorem Zto {s:Code} {a:Act} {w:World} (hR:∀ c (a:Act) w,a.defers=[]->R c w->Q (.panic c) a w) (h:s.wp P (PP R Q) a w):s.wp P Q a w :=
 Code.wp_mono (fun e a w h=>by cases e<;>first|exact h|exact hR _ _ _ h.1 h.2) h
structure Zmw (P:Program) (l:List Oper) (Q:Exit->Act->World->Prop) (R:List PanicEntry->World->Prop) (S:World->Prop) (m f:Nat) (L:Array Bool) (a:Act) (w:World):Prop where
 goes:Closed l.toArray L->S w->Zlb P l.toArray (PP R Q) S m f L a w
theorem Zee {id:Nat} {a:Act} {w:World} {l:List Oper} (S:World->Prop) (R:List PanicEntry->World->Prop) (m:Nat) (hR:∀ c (a:Act) w,a.defers=[]->R c w->Q (.panic c) a w) (hm:P.follows .mixedOrders=true) (hS:S w.drew)
 (h:Zmw P l Q R S m l.length (Array.replicate l.toArray.size false) a w.drew):(Code.region id l.toArray true).wp P Q a w :=
 Zto hR (wp_region_any hm (Zgy _ _ _ _ (h.goes (Zej _) hS)))
theorem Zmb {l:List Oper} {f:Nat} {L:Array Bool} {a:Act} {w:World} (i:Nat) (o:Oper) (v:Value) (hi:l[i]?=some o)
 (hB:(Region.noSelect l.toArray&&(Region.ready .any l.toArray L).contains i&&Region.free .any l.toArray L i&&(decide (l.toArray.size<=m)||reaches l.toArray l.toArray.size i m))=true)
 (hy:∀ w,S w->YieldsIf P l.toArray S o v a) (h:Zmw P l Q R S m f (L.setIfInBounds i true) (a.put o.dst v) w):Zmw P l Q R S m (f+1) L a w:=by
 refine⟨fun hc hS=>?_⟩;simp only[Bool.and_eq_true] at hB;obtain⟨⟨⟨hs,hr⟩,hf⟩,hm⟩:=hB;have hi':l.toArray[i]?=some o:=by simpa using hi
 have hr':i∈Region.ready .any l.toArray L:=by simpa using hr
 exact Zgh hi' hs Zxu hm f L a w hc (Region.free_spec hi' hf) hr' (hy w hS) hS (h.goes (hc.set hr') hS)
theorem Za3 {l:List Oper} {f:Nat} {L:Array Bool} {a:Act} {w:World} (i:Nat) {o:Oper} (hi:l[i]?=some o) (hg:o.guard=none)
 (hB:(Region.noSelect l.toArray&&(Region.ready .any l.toArray L).contains i&&Region.free .any l.toArray L i&&(decide (l.toArray.size<=m)||reaches l.toArray l.toArray.size i m))=true)
 (h:∃ v,(∀ w,S w->(execOp a.eval o).run P w=.ok (.value v) w)/\Zmw P l Q R S m f (L.setIfInBounds i true) (a.put o.dst v) w):Zmw P l Q R S m (f+1) L a w:=by
 obtain⟨v,h1,h2⟩:=h;exact Zmb i o v hi hB (fun w _=>.inl ⟨by simp[Region.wanted,hg],h1⟩) h2
theorem Zbp {l:List Oper} {f:Nat} {L:Array Bool} {a:Act} {w:World} (is:List Nat) (hr:(decide (Region.ready .any l.toArray L=is) && !is.isEmpty)=true)
 (h:∀ i∈is,S w->∀ o,l[i]?=some o->Region.wanted o (yielded l.toArray a.tmps)=true/\o.wp P a w (fun a' w'=>S w'/\Zmw P l Q R S m f (L.setIfInBounds i true) a' w') (PP R Q)):Zmw P l Q R S m (f+1) L a w:=by
 refine⟨fun hc hS=>?_⟩;simp only[Bool.and_eq_true,decide_eq_true_eq] at hr;obtain⟨hr,hne⟩:=hr;refine⟨fun h0=>(by rw[h0] at hr;subst hr;simp at hne),fun i hi=>?_⟩;have hi2:i∈is:=by rw[<- hr];exact hi
 obtain⟨_,o,ho,_⟩:=mem_ready.1 hi;obtain⟨hw,hwp⟩:=h i hi2 hS o (by simpa using ho);unfold wpOp;rw[ho];simp only[hw,if_true];left;refine Oper.wp_mono ?_ hwp;intro a' w' ⟨h1,h2⟩;exact⟨.inr h1,h2.goes (hc.set hi) h1⟩
theorem Zkn {l:List Oper} {L:Array Bool} {a:Act} {w:World} (hr:(Region.ready .any l.toArray L).isEmpty=true) (h:Q .normal a w):Zmw P l Q R S m 0 L a w :=
 ⟨fun _ _=>⟨by simpa [List.isEmpty_iff] using hr,h⟩⟩
end
end Go.Proofs.YtlgogjbkadckkaaGreat
