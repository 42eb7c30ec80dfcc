/- More contracts of the program's functions. -/
import Derived.Test.YtmofaapnkidioaaGreatE7
import Derived.Deep.Slices
import Derived.ChangeArms
import Derived.WideShapes
import Derived.ChangeSlices
set_option linter.unusedSimpArgs false
set_option linter.unusedVariables false
set_option linter.unusedSectionVars false
set_option linter.unnecessarySimpa false
set_option maxRecDepth 100000
set_option maxHeartbeats 8000000
namespace Go.Proofs.YtmofaapnkidioaaGreat
open Go.RowKit
section
variable {F:Phi} {o:Own} {w:World} {mb:Nat} {m:ManD} {s:ManW}
theorem look_no (h:Zb4 F o w mb m s) {k:Int} (hk:∀ f,(k,f)∉m.hs) :
 (Instr.lookup 126 (.map (some s.hb)) (.int .i64 k) true).run Tryz.prog w=.ok (.tuple #[.int .i64 0,.bool false]) w:=by
 have h1:=h.map.lookup kI Tryz.underlying126 Zxy k true
 have h2:getL (encH m.hs) k=none:=Zej.2 (by
  rintro p hp rfl;obtain⟨q,hq,rfl⟩:=List.mem_map.1 hp;exact hk q.2 hq)
 rw[h1,h2];rfl
end
theorem ctxEdge_no {F:Phi} {o:Own} {w:World} {xb mb:Nat} {m:ManD} (h:Zc6 F o w mb m) (hx:Zdd o w xb mb) {k:Int} (hk:∀ f,(k,f)∉m.hs) :
 Calls Tryz.prog 81 #[.pointer (some ⟨xb,0,none⟩),.int .i64 k] w fun x w'=>x=Zb2 8 false ev0/\w=w':=by
 obtain⟨s,h⟩:=h;obtain⟨c0,c1,c2,c3,c4,c5,f0⟩:=cells6 h.blk;have cx:=hx.cell;have hl:=look_no h hk;clear h hx hk
 go_enter Tryz.func81,Tryz.ntmps81
 go_wp2_with fail;exact⟨rfl,rfl,rfl⟩
open Go.RowKit
section
variable {K:Law} {n:Nat} {Od:List Nat->Prop} {room:Nat} {w0 w w':World} {mb:Nat} {fs:List (Int×BF)} {nx:Int} {o o':Own} {m m':ManD} {V V':Nat->BF}
theorem SatE.nofind (h:SatE K n Od room w0 mb fs nx w o m V) {k:Int} (hk:∀ p∈fs,p.1≠k):∀ f,(k,f)∉m.hs:=by
 intro f hf;refine hk (k,ef V f) ?_ rfl;rw[<- h.hs];exact List.mem_map.2 ⟨(k,f),hf,rfl⟩
theorem manIs_yes (h:SatE K n Od room w0 mb fs nx w o m V) {k:Int} {F:BF} (hk:(k,F)∈fs) :
 Calls Tryz.prog 36 #[.pointer (some ⟨mb,0,none⟩),.int .i64 k] w fun x w'=>x=.returned (.bool true)/\w=w':=by
 obtain⟨f,hf,rfl⟩:=h.find hk;obtain⟨s,hs⟩:=h.is;obtain⟨c0,c1,c2,c3,c4,c5,f0⟩:=cells6 hs.blk;have hl:=Zfn hs h.ok.handles.nodup hf;clear hs h hf hk
 go_enter Tryz.func36,Tryz.ntmps36
 go_wp2_with fail;go_ret;exact⟨rfl,rfl⟩
theorem manIs_no (h:SatE K n Od room w0 mb fs nx w o m V) {k:Int} (hk:∀ p∈fs,p.1≠k) :
 Calls Tryz.prog 36 #[.pointer (some ⟨mb,0,none⟩),.int .i64 k] w fun x w'=>x=.returned (.bool false)/\w=w':=by
 have hno:=h.nofind hk;obtain⟨s,hs⟩:=h.is;obtain⟨c0,c1,c2,c3,c4,c5,f0⟩:=cells6 hs.blk;have hl:=look_no hs hno;clear hs h hno hk
 go_enter Tryz.func36,Tryz.ntmps36
 go_wp2_with fail;go_ret;exact⟨rfl,rfl⟩
end
open Go.RowKit
theorem enters_iff (args:Array Value) (w:World):(callFunc 175 args).run Tryz.prog w=.ok (.enter 175 args) w:=enters_of Tryz.func175 (by kernel_rfl) rfl args w

open Go.RowKit
section
variable {K:Law} {n:Nat} {room:Nat} {w0 w:World} {mb:Nat} {fs:List (Int×BF)} {nx:Int} {o:Own} {m:ManD} {V:Nat->BF} {ws0:List Ev}
theorem ops_and (hK:Zbp K) (h:SatE K n (fun _=>True) room w0 mb fs nx w o m V) {c:Nat} {a:Option Addr} {ks:List Int} {Fs:List BF} (hl:ArgL fs w0 w o a ks Fs) (hst:m.waits <:+ ws0) (hn:nx<=549755813888) (hr:fs.length*2^n+ks.length*(2^n-1)<=room) :
 Calls Tryz.prog 26 #[.pointer (some ⟨mb,0,none⟩),.slice a ks.length c] w (NewF K n room w0 mb fs nx ws0 (Zim andF (Zd7 0) Fs) o w):=by
 have HC:=Hd (Zwk (c:=c) hK (Yan hK) Zrs h (e0:=0) rfl hl.z hl.own hl.len hl.mem hst hn hr);clear h hK hl hst hn hr;obtain⟨P,hP⟩:∃ P,P=NewF K n room w0 mb fs nx ws0 (Zim andF (Zd7 0) Fs) o w:=⟨_,rfl⟩;rw[<- hP] at HC ⊢;have HT:Hid (∀ x w',P x w'->∃ a b,x=.returned (.tuple #[.int .i64 a,.int .i64 b])):=Hd (by subst hP;rintro x w' ⟨rfl,_⟩;exact⟨_,_,rfl⟩);clear hP
 go_enter Tryz.func26,Tryz.ntmps26
 go_wp2_with fail;refine HC.out.mono ?_;intro x w' hd;obtain⟨a,b,rfl⟩:=HT.out x w' hd;have HD:=Hd hd;clear hd;go_wp2_with fail;exact HD.out
theorem ops_xor (hK:Zbp K) (h:SatE K n (fun _=>True) room w0 mb fs nx w o m V) {c:Nat} {a:Option Addr} {ks:List Int} {Fs:List BF} (hl:ArgL fs w0 w o a ks Fs) (hst:m.waits <:+ ws0) (hn:nx<=549755813888) (hr:fs.length*2^n+ks.length*(2^n-1)<=room) :
 Calls Tryz.prog 115 #[.pointer (some ⟨mb,0,none⟩),.slice a ks.length c] w (NewF K n room w0 mb fs nx ws0 (Zim xorF (Zd7 1) Fs) o w):=by
 have HC:=Hd (Zwk (c:=c) hK (Yaq hK) Zrx h (e0:=1) rfl hl.z hl.own hl.len hl.mem hst hn hr);clear h hK hl hst hn hr;obtain⟨P,hP⟩:∃ P,P=NewF K n room w0 mb fs nx ws0 (Zim xorF (Zd7 1) Fs) o w:=⟨_,rfl⟩;rw[<- hP] at HC ⊢;have HT:Hid (∀ x w',P x w'->∃ a b,x=.returned (.tuple #[.int .i64 a,.int .i64 b])):=Hd (by subst hP;rintro x w' ⟨rfl,_⟩;exact⟨_,_,rfl⟩);clear hP
 go_enter Tryz.func115,Tryz.ntmps115
 go_wp2_with fail;refine HC.out.mono ?_;intro x w' hd;obtain⟨a,b,rfl⟩:=HT.out x w' hd;have HD:=Hd hd;clear hd;go_wp2_with fail;exact HD.out
theorem ops_imp (hK:Zbp K) (h:SatE K n (fun _=>True) room w0 mb fs nx w o m V) {ka kb:Int} {F1 F2:BF} (h1:(ka,F1)∈fs) (h2:(kb,F2)∈fs) (hst:m.waits <:+ ws0) (hn:nx<=549755813888) (hr:fs.length*2^n+(2^n-1)<=room) :
 Calls Tryz.prog 117 #[.pointer (some ⟨mb,0,none⟩),.int .i64 ka,.int .i64 kb] w (NewF K n room w0 mb fs nx ws0 (impF F1 F2) o w):=by
 have HC:=Hd (Zv6 hK (Zyb hK) Zru h h1 h2 hst hn hr);clear h hK h1 h2 hst hn hr;obtain⟨P,hP⟩:∃ P,P=NewF K n room w0 mb fs nx ws0 (impF F1 F2) o w:=⟨_,rfl⟩;rw[<- hP] at HC ⊢;have HT:Hid (∀ x w',P x w'->∃ a b,x=.returned (.tuple #[.int .i64 a,.int .i64 b])):=Hd (by subst hP;rintro x w' ⟨rfl,_⟩;exact⟨_,_,rfl⟩);clear hP
 go_enter Tryz.func117,Tryz.ntmps117
 go_wp2_with fail;refine HC.out.mono ?_;intro x w' hd;obtain⟨a,b,rfl⟩:=HT.out x w' hd;have HD:=Hd hd;clear hd;go_wp2_with fail;exact HD.out
theorem ops_iff (hK:Zbp K) (h:SatE K n (fun _=>True) room w0 mb fs nx w o m V) {ka kb:Int} {F1 F2:BF} (h1:(ka,F1)∈fs) (h2:(kb,F2)∈fs) (hst:m.waits <:+ ws0) (hn:nx<=549755813888) (hr:fs.length*2^n+(2^n-1)<=room) :
 Calls Tryz.prog 118 #[.pointer (some ⟨mb,0,none⟩),.int .i64 ka,.int .i64 kb] w (NewF K n room w0 mb fs nx ws0 (iffF F1 F2) o w):=by
 have HC:=Hd (Zv6 hK (Yao hK) enters_iff h h1 h2 hst hn hr);clear h hK h1 h2 hst hn hr;obtain⟨P,hP⟩:∃ P,P=NewF K n room w0 mb fs nx ws0 (iffF F1 F2) o w:=⟨_,rfl⟩;rw[<- hP] at HC ⊢;have HT:Hid (∀ x w',P x w'->∃ a b,x=.returned (.tuple #[.int .i64 a,.int .i64 b])):=Hd (by subst hP;rintro x w' ⟨rfl,_⟩;exact⟨_,_,rfl⟩);clear hP
 go_enter Tryz.func118,Tryz.ntmps118
 go_wp2_with fail;refine HC.out.mono ?_;intro x w' hd;obtain⟨a,b,rfl⟩:=HT.out x w' hd;have HD:=Hd hd;clear hd;go_wp2_with fail;exact HD.out
def joinF14 (k:Nat) (Fs:List BF):BF:=if k=0 then Zim andF (Zd7 0) Fs else if k=1 then Zim orF (Zd7 1) Fs else Zim xorF (Zd7 1) Fs
theorem join14_any (hK:Zbp K) (h:SatE K n (fun _=>True) room w0 mb fs nx w o m V) {c:Nat} {a:Option Addr} {ks:List Int} {Fs:List BF} (hl:ArgL fs w0 w o a ks Fs) (hst:m.waits <:+ ws0) (hn:nx<=549755813888) (hr:fs.length*2^n+ks.length*(2^n-1)<=room) (k:Nat) (hk:k<3) :
 Calls Tryz.prog 49 #[.pointer (some ⟨mb,0,none⟩),.int .i64 k,.slice a ks.length c] w (NewF K n room w0 mb fs nx ws0 (joinF14 k Fs) o w):=by
 rcases(show k=0\/k=1\/k=2 by omega) with rfl|rfl|rfl
 ·
  have HC:=Hd (ops_and (c:=c) hK h hl hst hn hr);rw[show Zim andF (Zd7 0) Fs=joinF14 0 Fs from rfl] at HC;clear h hK hl hst hn hr hk;obtain⟨P,hP⟩:∃ P,P=NewF K n room w0 mb fs nx ws0 (joinF14 0 Fs) o w:=⟨_,rfl⟩;rw[<- hP] at HC ⊢;have HT:Hid (∀ x w',P x w'->∃ a b,x=.returned (.tuple #[.int .i64 a,.int .i64 b])):=Hd (by subst hP;rintro x w' ⟨rfl,_⟩;exact⟨_,_,rfl⟩);clear hP
  go_enter Tryz.func49,Tryz.ntmps49
  go_wp2_with fail;refine HC.out.mono ?_;intro x w' hd;obtain⟨a,b,rfl⟩:=HT.out x w' hd;have HD:=Hd hd;clear hd;go_wp2_with fail;exact HD.out
 ·
  have HC:=Hd (Yar (c:=c) hK h hl hst hn hr);rw[show Zim orF (Zd7 1) Fs=joinF14 1 Fs from rfl] at HC;clear h hK hl hst hn hr hk;obtain⟨P,hP⟩:∃ P,P=NewF K n room w0 mb fs nx ws0 (joinF14 1 Fs) o w:=⟨_,rfl⟩;rw[<- hP] at HC ⊢;have HT:Hid (∀ x w',P x w'->∃ a b,x=.returned (.tuple #[.int .i64 a,.int .i64 b])):=Hd (by subst hP;rintro x w' ⟨rfl,_⟩;exact⟨_,_,rfl⟩);clear hP
  go_enter Tryz.func49,Tryz.ntmps49
  go_wp2_with fail;refine HC.out.mono ?_;intro x w' hd;obtain⟨a,b,rfl⟩:=HT.out x w' hd;have HD:=Hd hd;clear hd;go_wp2_with fail;exact HD.out
 ·
  have HC:=Hd (ops_xor (c:=c) hK h hl hst hn hr);rw[show Zim xorF (Zd7 1) Fs=joinF14 2 Fs from rfl] at HC;clear h hK hl hst hn hr hk;obtain⟨P,hP⟩:∃ P,P=NewF K n room w0 mb fs nx ws0 (joinF14 2 Fs) o w:=⟨_,rfl⟩;rw[<- hP] at HC ⊢;have HT:Hid (∀ x w',P x w'->∃ a b,x=.returned (.tuple #[.int .i64 a,.int .i64 b])):=Hd (by subst hP;rintro x w' ⟨rfl,_⟩;exact⟨_,_,rfl⟩);clear hP
  go_enter Tryz.func49,Tryz.ntmps49
  go_wp2_with fail;refine HC.out.mono ?_;intro x w' hd;obtain⟨a,b,rfl⟩:=HT.out x w' hd;have HD:=Hd hd;clear hd;go_wp2_with fail;exact HD.out
theorem two14_any (hK:Zbp K) (h:SatE K n (fun _=>True) room w0 mb fs nx w o m V) {ka kb:Int} {F1 F2:BF} (h1:(ka,F1)∈fs) (h2:(kb,F2)∈fs) (hst:m.waits <:+ ws0) (hn:nx<=549755813888) (hr:fs.length*2^n+(2^n-1)<=room) (k:Nat) (hk:k<3) :
 Calls Tryz.prog 51 #[.pointer (some ⟨mb,0,none⟩),.int .i64 k,.int .i64 ka,.int .i64 kb] w (NewF K n room w0 mb fs nx ws0 (if k=0 then impF F1 F2 else if k=1 then iffF F1 F2 else Zns F1 F2) o w):=by
 rcases(show k=0\/k=1\/k=2 by omega) with rfl|rfl|rfl
 ·
  have HC:=Hd (ops_imp hK h h1 h2 hst hn hr);rw[show (if 0=0 then impF F1 F2 else if 0=1 then iffF F1 F2 else Zns F1 F2)=impF F1 F2 from rfl];clear h hK h1 h2 hst hn hr hk;obtain⟨P,hP⟩:∃ P,P=NewF K n room w0 mb fs nx ws0 (impF F1 F2) o w:=⟨_,rfl⟩;rw[<- hP] at HC ⊢;have HT:Hid (∀ x w',P x w'->∃ a b,x=.returned (.tuple #[.int .i64 a,.int .i64 b])):=Hd (by subst hP;rintro x w' ⟨rfl,_⟩;exact⟨_,_,rfl⟩);clear hP
  go_enter Tryz.func51,Tryz.ntmps51
  go_wp2_with fail;refine HC.out.mono ?_;intro x w' hd;obtain⟨a,b,rfl⟩:=HT.out x w' hd;have HD:=Hd hd;clear hd;go_wp2_with fail;exact HD.out
 ·
  have HC:=Hd (ops_iff hK h h1 h2 hst hn hr);rw[show (if 1=0 then impF F1 F2 else if 1=1 then iffF F1 F2 else Zns F1 F2)=iffF F1 F2 from rfl];clear h hK h1 h2 hst hn hr hk;obtain⟨P,hP⟩:∃ P,P=NewF K n room w0 mb fs nx ws0 (iffF F1 F2) o w:=⟨_,rfl⟩;rw[<- hP] at HC ⊢;have HT:Hid (∀ x w',P x w'->∃ a b,x=.returned (.tuple #[.int .i64 a,.int .i64 b])):=Hd (by subst hP;rintro x w' ⟨rfl,_⟩;exact⟨_,_,rfl⟩);clear hP
  go_enter Tryz.func51,Tryz.ntmps51
  go_wp2_with fail;refine HC.out.mono ?_;intro x w' hd;obtain⟨a,b,rfl⟩:=HT.out x w' hd;have HD:=Hd hd;clear hd;go_wp2_with fail;exact HD.out
 ·
  have HC:=Hd (Zw7 hK h h1 h2 hst hn hr);rw[show (if 2=0 then impF F1 F2 else if 2=1 then iffF F1 F2 else Zns F1 F2)=Zns F1 F2 from rfl];clear h hK h1 h2 hst hn hr hk;obtain⟨P,hP⟩:∃ P,P=NewF K n room w0 mb fs nx ws0 (Zns F1 F2) o w:=⟨_,rfl⟩;rw[<- hP] at HC ⊢;have HT:Hid (∀ x w',P x w'->∃ a b,x=.returned (.tuple #[.int .i64 a,.int .i64 b])):=Hd (by subst hP;rintro x w' ⟨rfl,_⟩;exact⟨_,_,rfl⟩);clear hP
  go_enter Tryz.func51,Tryz.ntmps51
  go_wp2_with fail;refine HC.out.mono ?_;intro x w' hd;obtain⟨a,b,rfl⟩:=HT.out x w' hd;have HD:=Hd hd;clear hd;go_wp2_with fail;exact HD.out
theorem meets_any (hK:Zbp K) (h:SatE K n (fun _=>True) room w0 mb fs nx w o m V) {ka kb:Int} {F1 F2:BF} (h1:(ka,F1)∈fs) (h2:(kb,F2)∈fs) {b:Bool} (hb:b=true↔andF F1 F2=Zd7 1) (hst:m.waits <:+ ws0) (hn:nx<=549755813888) (hr:fs.length*2^n+(2^n-1)<=room) :
 Calls Tryz.prog 53 #[.pointer (some ⟨mb,0,none⟩),.int .i64 ka,.int .i64 kb] w (IsP K n room w0 mb fs nx ws0 (!b) o w):=by
 have HC:=Hd (Ya1 hK (Yan hK) Zrs h (e0:=1) h1 h2 rfl hb hst hn hr);clear h hK h1 h2 hst hn hr hb
 go_enter Tryz.func53,Tryz.ntmps53
 go_wp2_with fail;refine HC.out.mono ?_;rintro x w' ⟨rfl,hd⟩;have HD:Hid (IsP K n room w0 mb fs nx ws0 (!b) o w (.returned (.tuple #[.bool (!b),.int .i64 0])) w'):=Hd ⟨rfl,hd⟩;clear hd;cases b with
 | true =>
   go_wp2_with fail
   go_ret2
   exact HD.out
 | false =>
   go_wp2_with fail
   go_ret2
   exact HD.out
end
open Go.RowKit
theorem rem3 (z:Nat):∃ j:Nat,j<3/\Int.tmod ((z:Nat):Int) 3=((j:Nat):Int):=⟨z%3,Nat.mod_lt _ (by omega),by rw[Int.tmod_eq_emod_of_nonneg (by omega)];omega⟩
theorem bool_iff (p:Prop):∃ b:Bool,b=true↔p:=by
 classical
 exact⟨decide p,by simp⟩
open Go.RowKit
theorem conv_u8 {k:Nat} (hk:k<256):IntKind.i64.wrap ((k:Nat):Int)=(k:Int):=by
 simp[IntKind.wrap,IntKind.bits];omega

open Go.RowKit
section
variable {K:Law} {n room:Nat} {w0 w W w':World} {mb:Nat} {fs fs':List (Int×BF)} {nx nx':Int} {o:Own} {m:ManD} {V:Nat->BF} {ws0:List Ev} {rs:List (Value×BF)} {f:Nat} {args:Array Value}
theorem StF.go {R:Ending->Prop} (h:StF K n room w0 mb fs nx ws0 rs w) (hc:∀ o m V,m.waits <:+ ws0->SatE K n (fun _=>True) room w0 mb fs nx w o m V->Calls Tryz.prog f args w fun x w'=>R x/\Goes K n (fun _=>True) room w0 mb fs' nx' (W2 (SufW ws0)) o w w') :
 Calls Tryz.prog f args w fun x w'=>R x/\StF K n room w0 mb fs' nx' ws0 rs w':=by
 obtain⟨o,m,V,h1,h2,h3⟩:=h;refine(hc o m V h1 h2).mono ?_;rintro x w' ⟨q1,o',m',V',q2,q3,q4⟩;exact⟨q1,o',m',V',q3,q4,fun p hp=>(h3 p hp).chg q2⟩
theorem SatE.goes0 (h:SatE K n (fun _=>True) room w0 mb fs nx w o m V) (hw:m.waits <:+ ws0):Goes K n (fun _=>True) room w0 mb fs nx (W2 (SufW ws0)) o w w:=⟨o,m,V,ChgX.of_below (Below.refl _ _) o NoB,hw,h⟩
end
open Go.RowKit
def BPost (K:Law) (k:Nat) (o:Own) (w:World) (mb:Nat) (m:ManD) (V:Nat->BF) (e:Ending) (w':World):Prop :=
 ∃ er evt ev,e=Zb2 er evt ev/\(Zrb K k o w mb m V er evt ev w'\/(er=8/\evt=false/\ev=ev0/\∃ o' m' V',Step K o w mb m V o' w' m' V'/\m'.waits=m.waits))
section
variable {K:Law} {n k:Nat} {Od:List Nat->Prop} {room:Nat} {w0 w w1:World} {mb xb:Nat} {fs:List (Int×BF)} {nx:Int} {o:Own} {m:ManD} {V:Nat->BF}
theorem opG_bad {C:Nat->Prop} {B:World->Prop} {gop:Nat} {lop:Array Value} (ws0:List Ev) (hhap:∀ ev∈ws0,HapG K n Od room w0 mb fs nx ev)
 (hB:∀ W W',B W->(∀ c,C c->W'.heap[c]?=W.heap[c]?)->B W')
 (hop:∀ (o:Own) (W:World) (m:ManD) (V:Nat->BF) (xb:Nat),SatE K n Od room w0 mb fs nx W o m V->B W->(∀ k,C k->k<W.heap.size/\o k=none)->Zdd o W xb mb->¬ C xb->Calls Tryz.prog gop (#[.pointer (some ⟨xb,0,none⟩)]++lop) W (BPost K k o W mb m V)) :
 OpG K n Od room w0 mb fs nx C B (StL ws0 none) gop lop (fun _ _ _ _=>False) (fun er m m'=>(er=8/\m'.waits <:+ ws0)\/EL (SatX K n Od room w0 mb fs nx) k ws0 none er m m'):=by
 intro o W m V xb hsat hb hC hst hcx hnx;refine(hop o W m V xb hsat hb hC hcx hnx).mono ?_;have hkeep:∀ {o':Own} {w':World} {m':ManD} {V':Nat->BF},Step K o W mb m V o' w' m' V'->B w':=fun st=>hB _ _ hb fun c hc=>st.chg.alien (hC c hc).1 (hC c hc).2
 rintro e w' ⟨er,evt,ev,rfl,⟨o',m',V',st,⟨rfl,rfl,rfl,a4,a5,a6⟩|⟨rfl,rfl,a3⟩⟩|⟨rfl,rfl,rfl,o',m',V',st,a4⟩⟩
 ·
  exact⟨o',m',V',st.toX _,hkeep st,.inr (.inl ⟨7,rfl,by omega,a4,⟨by unfold Zjx;rw[a4];exact hst.1,fun M e=>by cases e⟩,.inr ⟨rfl,rfl,⟨_,_,_,hsat⟩,a5,a6,by rw[a4];exact hst.1⟩⟩)⟩
 ·
  have hst':m.waits <:+ ws0:=hst.1;rw[a3] at hst';exact⟨o',m',V',st.toX _,hkeep st,.inr (.inr ⟨ev,rfl,a3,fun _ _ _ _ _ e _ _=>⟨by unfold Zjx;rw[e];exact(List.suffix_cons ev m'.waits).trans hst',fun M e=>by cases e⟩,hhap ev (hst'.subset (List.mem_cons_self ..))⟩)⟩
 ·
  exact⟨o',m',V',st.toX _,hkeep st,.inr (.inl ⟨8,rfl,by omega,a4,⟨by unfold Zjx;rw[a4];exact hst.1,fun M e=>by cases e⟩,.inl ⟨rfl,by rw[a4];exact hst.1⟩⟩)⟩
def BadF (K:Law) (n room:Nat) (w0:World) (mb:Nat) (fs:List (Int×BF)) (nx:Int) (ws0:List Ev) (v:Value) (o:Own) (w:World) (x:Ending) (w':World):Prop :=
 x=.returned v/\∃ o' m' V',ChgX NoB o o' w w'/\m'.waits <:+ ws0/\SatE K n (fun _=>True) room w0 mb fs nx w' o' m' V'
theorem do_bad {C:Nat->Prop} {B:World->Prop} {gop:Nat} {lop:Array Value} (hK:Zbp K) (eg:∀ args w,(callFunc gop args).run Tryz.prog w=.ok (.enter gop args) w) (ws0:List Ev)
 (hB:∀ W W',B W->(∀ c,C c->W'.heap[c]?=W.heap[c]?)->B W')
 (hop:∀ (o:Own) (W:World) (m:ManD) (V:Nat->BF) (xb:Nat),SatE K n (fun _=>True) room w0 mb fs nx W o m V->B W->(∀ k,C k->k<W.heap.size/\o k=none)->Zdd o W xb mb->¬ C xb->Calls Tryz.prog gop (#[.pointer (some ⟨xb,0,none⟩)]++lop) W (BPost K k o W mb m V))
 (h:SatE K n (fun _=>True) room w0 mb fs nx w o m V) (hb1:Below w.heap.size w w1) (hC:∀ c,C c->c<w1.heap.size/\(w.heap.size<=c\/(w0.heap.size<=c/\o c=none/\∀ W,B W->W.heap[c]?=w.heap[c]?))) (hb:B w1) (hst:m.waits <:+ ws0) (hn:nx<=549755813888) (hr:fs.length*2^n+k<=room) :
 Calls Tryz.prog 75 #[.pointer (some ⟨mb,0,none⟩),.func (.func gop) #[] lop] w1 (BadF K n room w0 mb fs nx ws0 (.tuple #[.int .i64 0,.int .i64 8]) o w):=by
 have hw0:=h.chg.size;have hnone:∀ c,C c->o c=none:=fun c hc=>by
  rcases(hC c hc).2 with h1|⟨_,h1,_⟩
  ·
   exact h.lt.none h1
  ·
   exact h1
 refine(Ztw hK hB (fun _ _ _ _ _ h _=>h) StL.coll (fun c hc=>by
  rcases(hC c hc).2 with h1|⟨h1,_,_⟩
  ·
   exact Nat.le_trans hw0 h1
  ·
   exact h1) eg (opG_bad (k:=k) ws0 (fun ev _=>Zin hn ev) hB hop) (h.below hb1) hb (fun c hc=>⟨(hC c hc).1,hnone c hc⟩) ⟨hst,fun _ e=>by cases e⟩ (by omega)).mono ?_
 rintro x w' ⟨o',m',V',hB',hc,⟨_,_,_,_,hfalse,_⟩|⟨er,m0,_,rfl,hsf,(⟨rfl,q2⟩|⟨_,e7,⟨W',oo,VV,hs'⟩,h5,h6,_⟩),h7⟩⟩
 ·
  exact hfalse.elim
 ·
  refine⟨rfl,o',m',V',⟨hc.os.trans hb1.os,hc.tape.trans hb1.tape,hc.output.trans hb1.output,Nat.le_trans hb1.size hc.size,fun j hj ho _=>?_,hc.ext,fun j hj=>Nat.le_trans hb1.size (hc.new j hj)⟩,q2,hsf⟩
  by_cases hcj:C j
  ·
   rcases(hC j hcj).2 with h1|⟨_,_,h1⟩
   ·
    omega
   ·
    exact h1 w' hB'
  ·
   exact(hc.block j (Nat.lt_of_lt_of_le hj hb1.size) ho hcj).trans (hb1.block j hj)
 ·
  exfalso;have h8:=hs'.few (h7 e7);have h9:=hsf.room;omega
theorem both1_b {g:Nat} {ba bf bb:Nat} {ka kb:Int} (hbad:(∀ p∈fs,p.1≠ka)\/(∃ F,(ka,F)∈fs)/\∀ p∈fs,p.1≠kb) (hsat:SatE K n Od room w0 mb fs nx w o m V) (hB:BoB ba bf bb ka kb g w) (hx:Zdd o w xb mb) :
 Calls Tryz.prog 209 #[.pointer (some ⟨xb,0,none⟩),.pointer (some ⟨ba,0,none⟩),.pointer (some ⟨bf,0,none⟩),.pointer (some ⟨bb,0,none⟩)] w fun e w'=>e=Zb2 8 false ev0/\Below w.heap.size w w':=by
 have hk:=hsat.ok;have hbd:Below w.heap.size w w.drew:=Zai w 1;obtain⟨s,hms⟩:=hsat.is;have hmW:=hms.below hsat.lt hbd;have hxW:Zdd o w.drew xb mb:=⟨(hbd.cell (p:=⟨xb,0,none⟩) (Zaa hx.cell)).trans hx.cell,hx.own⟩;have ca:=hB.a;have cf:=(hbd.cell (p:=⟨bf,0,none⟩) (Zaa hB.f)).trans hB.f;have cb:=(hbd.cell (p:=⟨bb,0,none⟩) (Zaa hB.b)).trans hB.b;have HBD:=Hd hbd;obtain⟨P,hP⟩:∃ P:Ending->World->Prop,P=fun e w'=>e=Zb2 8 false ev0/\Below w.heap.size w w':=⟨_,rfl⟩
 have HP0:Hid (∀ e w',e=Zb2 8 false ev0/\w=w'->(∃ v,e=.returned v/\False)\/(∃ ch,e=.panicked ch/\P (.panicked ch) w')):=Hd (by
  subst hP;rintro e w' ⟨rfl,rfl⟩;exact .inr ⟨_,rfl,rfl,Below.refl _ _⟩)
 have HP1:Hid (∀ e w',e=Zb2 8 false ev0/\w.drew=w'->(∃ v,e=.returned v/\False)\/(∃ ch,e=.panicked ch/\P (.panicked ch) w')):=Hd (by
  subst hP;rintro e w' ⟨rfl,rfl⟩;exact .inr ⟨_,rfl,rfl,hbd⟩)
 rw[<- hP];rcases hbad with h1|⟨⟨F1,h1⟩,h2⟩
 ·
  have HE1:=Hd (ctxEdge_no hsat.is hx (hsat.nofind h1));clear h1 hsat hB hx hk hbd hms hmW hxW hP
  go_enter Tryz.func209,Tryz.ntmps209
  go_wp2_with fail;refine(HE1.out.mono HP0.out).mono ?_;rintro x w' (⟨_,_,hf⟩|⟨ch,rfl,hst⟩)
  ·
   exact hf.elim
  ·
   have HST:=Hd hst;clear hst;go_wp2_with fail;exact⟨rfl,HST.out⟩
 ·
  obtain⟨f1,hf1,e1⟩:=hsat.find h1;have HE1:=Hd (Zcs hsat.is hx hk.handles.nodup hf1);have HE2:=Hd (ctxEdge_no ⟨s,hmW⟩ hxW (hsat.nofind h2));clear h1 h2 hsat hB hx hf1 e1 hk hbd hms hmW hxW hP
  go_enter Tryz.func209,Tryz.ntmps209
  go_wp2_with fail;refine HE1.out.mono ?_;rintro x w' ⟨rfl,rfl⟩;go_upto_region 2 with fail;refine Zcz (fun W:World=>W.cell? ⟨bf,0,none⟩=some (.func (.func g) #[] #[])/\W.cell? ⟨bb,0,none⟩=some (.int .i64 kb)) (fun ch w'=>P (.panicked ch) w') 8 (fun c a w hd h=>⟨hd,h⟩) (by kernel_rfl) ⟨cf,cb⟩ ?_;refine Zav 0 rfl rfl (by kernel_rfl) ?_;apply Exists.intro;refine⟨fun w' hw=>?_,?_⟩
  ·
   obtain⟨q1,q2⟩:=hw;go_simp;rfl
  simp only[Zah];refine Zav 1 rfl rfl (by kernel_rfl) ?_;apply Exists.intro;refine⟨fun w' hw=>?_,?_⟩
  ·
   obtain⟨q1,q2⟩:=hw;go_simp;rfl
  simp only[Zah];refine Zav 2 rfl rfl (by kernel_rfl) ?_;apply Exists.intro;refine⟨fun w' hw=>?_,?_⟩
  ·
   obtain⟨q1,q2⟩:=hw;go_simp;rfl
  simp only[Zah];refine Zav 3 rfl rfl (by kernel_rfl) ?_;apply Exists.intro;refine⟨fun w' hw=>?_,?_⟩
  ·
   obtain⟨q1,q2⟩:=hw;go_simp;rfl
  simp only[Zah];refine Zav 4 rfl rfl (by kernel_rfl) ?_;apply Exists.intro;refine⟨fun w' hw=>?_,?_⟩
  ·
   obtain⟨q1,q2⟩:=hw;go_simp;rfl
  simp only[Zah];refine Zb5 [5] (by kernel_rfl) (fun i hi hS o ho=>?_);simp only[Za6] at hi;subst hi;simp only[Za1] at ho;subst ho;refine⟨rfl,?_⟩;refine Zfa (R:=fun _ _=>False) (R2:=fun ch w'=>P (.panicked ch) w') (by go_simp) (HE2.out.mono HP1.out) ?_ ?_
  ·
   intro v w' hst;exact hst.elim
  ·
   intro ch w' hst;exact⟨rfl,hst⟩
theorem is1_b {g:Nat} {ba bf bb bw bs e0:Nat} {ka kb:Int} (hbad:(∀ p∈fs,p.1≠ka)\/(∃ F,(ka,F)∈fs)/\∀ p∈fs,p.1≠kb) (hsat:SatE K n Od room w0 mb fs nx w o m V) (hB:BoI ba bf bb bw ka kb g e0 w) (hx:Zdd o w xb mb) :
 Calls Tryz.prog 177 #[.pointer (some ⟨xb,0,none⟩),.pointer (some ⟨ba,0,none⟩),.pointer (some ⟨bf,0,none⟩),.pointer (some ⟨bb,0,none⟩),.pointer (some ⟨bw,0,none⟩),.pointer (some ⟨bs,0,none⟩)] w fun e w'=>e=Zb2 8 false ev0/\Below w.heap.size w w':=by
 have hk:=hsat.ok;have hbd:Below w.heap.size w w.drew:=Zai w 1;obtain⟨s,hms⟩:=hsat.is;have hmW:=hms.below hsat.lt hbd;have hxW:Zdd o w.drew xb mb:=⟨(hbd.cell (p:=⟨xb,0,none⟩) (Zaa hx.cell)).trans hx.cell,hx.own⟩;have ca:=hB.a;have cf:=(hbd.cell (p:=⟨bf,0,none⟩) (Zaa hB.f)).trans hB.f;have cb:=(hbd.cell (p:=⟨bb,0,none⟩) (Zaa hB.b)).trans hB.b;have cw:=(hbd.cell (p:=⟨bw,0,none⟩) (Zaa hB.w)).trans hB.w;have HBD:=Hd hbd;obtain⟨P,hP⟩:∃ P:Ending->World->Prop,P=fun e w'=>e=Zb2 8 false ev0/\Below w.heap.size w w':=⟨_,rfl⟩
 have HP0:Hid (∀ e w',e=Zb2 8 false ev0/\w=w'->(∃ v,e=.returned v/\False)\/(∃ ch,e=.panicked ch/\P (.panicked ch) w')):=Hd (by
  subst hP;rintro e w' ⟨rfl,rfl⟩;exact .inr ⟨_,rfl,rfl,Below.refl _ _⟩)
 have HP1:Hid (∀ e w',e=Zb2 8 false ev0/\w.drew=w'->(∃ v,e=.returned v/\False)\/(∃ ch,e=.panicked ch/\P (.panicked ch) w')):=Hd (by
  subst hP;rintro e w' ⟨rfl,rfl⟩;exact .inr ⟨_,rfl,rfl,hbd⟩)
 rw[<- hP];rcases hbad with h1|⟨⟨F1,h1⟩,h2⟩
 ·
  have HE1:=Hd (ctxEdge_no hsat.is hx (hsat.nofind h1));clear h1 hsat hB hx hk hbd hms hmW hxW hP
  go_enter Tryz.func177,Tryz.ntmps177
  go_wp2_with fail;refine(HE1.out.mono HP0.out).mono ?_;rintro x w' (⟨_,_,hf⟩|⟨ch,rfl,hst⟩)
  ·
   exact hf.elim
  ·
   have HST:=Hd hst;clear hst;go_wp2_with fail;exact⟨rfl,HST.out⟩
 ·
  obtain⟨f1,hf1,e1⟩:=hsat.find h1;have HE1:=Hd (Zcs hsat.is hx hk.handles.nodup hf1);have HE2:=Hd (ctxEdge_no ⟨s,hmW⟩ hxW (hsat.nofind h2));clear h1 h2 hsat hB hx hf1 e1 hk hbd hms hmW hxW hP
  go_enter Tryz.func177,Tryz.ntmps177
  go_wp2_with fail;refine HE1.out.mono ?_;rintro x w' ⟨rfl,rfl⟩;go_upto_region 1 with fail;refine Zcz (fun W:World=>W.cell? ⟨bf,0,none⟩=some (.func (.func g) #[] #[])/\W.cell? ⟨bb,0,none⟩=some (.int .i64 kb)/\W.cell? ⟨bw,0,none⟩=some (.int .i64 e0)) (fun ch w'=>P (.panicked ch) w') 10 (fun c a w hd h=>⟨hd,h⟩) (by kernel_rfl) ⟨cf,cb,cw⟩ ?_;refine Zav 0 rfl rfl (by kernel_rfl) ?_;apply Exists.intro;refine⟨fun w' hw=>?_,?_⟩
  ·
   obtain⟨q1,q2,q3⟩:=hw;go_simp;rfl
  simp only[Zah];refine Zav 1 rfl rfl (by kernel_rfl) ?_;apply Exists.intro;refine⟨fun w' hw=>?_,?_⟩
  ·
   obtain⟨q1,q2,q3⟩:=hw;go_simp;rfl
  simp only[Zah];refine Zav 2 rfl rfl (by kernel_rfl) ?_;apply Exists.intro;refine⟨fun w' hw=>?_,?_⟩
  ·
   obtain⟨q1,q2,q3⟩:=hw;go_simp;rfl
  simp only[Zah];refine Zav 3 rfl rfl (by kernel_rfl) ?_;apply Exists.intro;refine⟨fun w' hw=>?_,?_⟩
  ·
   obtain⟨q1,q2,q3⟩:=hw;go_simp;rfl
  simp only[Zah];refine Zav 4 rfl rfl (by kernel_rfl) ?_;apply Exists.intro;refine⟨fun w' hw=>?_,?_⟩
  ·
   obtain⟨q1,q2,q3⟩:=hw;go_simp;rfl
  simp only[Zah];refine Zav 7 rfl rfl (by kernel_rfl) ?_;apply Exists.intro;refine⟨fun w' hw=>?_,?_⟩
  ·
   obtain⟨q1,q2,q3⟩:=hw;go_simp;rfl
  simp only[Zah];refine Zb5 [5] (by kernel_rfl) (fun i hi hS o ho=>?_);simp only[Za6] at hi;subst hi;simp only[Za1] at ho;subst ho;refine⟨rfl,?_⟩;refine Zfa (R:=fun _ _=>False) (R2:=fun ch w'=>P (.panicked ch) w') (by go_simp) (HE2.out.mono HP1.out) ?_ ?_
  ·
   intro v w' hst;exact hst.elim
  ·
   intro ch w' hst;exact⟨rfl,hst⟩
theorem fold1_b {g:Nat} {G:BF->BF->BF} (hG:Zg9 K n g G) (eg:∀ args w,(callFunc g args).run Tryz.prog w=.ok (.enter g args) w) {b1 bl bf e0 c:Nat} {a:Option Addr} {ks:List Int} (he0:e0/2=0) (hbad:∃ i,∃ h:i<ks.length,∀ p∈fs,p.1≠ks[i]) (hsat:SatE K n Od room w0 mb fs nx w o m V) (hB:BoF b1 bl bf e0 a c ks g w) (hno:∀ k,(k=b1\/k=bl\/k=bf\/∃ x,a=some x/\k=x.block)->o k=none) (hx:Zdd o w xb mb) :
 Calls Tryz.prog 160 #[.pointer (some ⟨xb,0,none⟩),.pointer (some ⟨b1,0,none⟩),.pointer (some ⟨bl,0,none⟩),.pointer (some ⟨bf,0,none⟩)] w (BPost K (ks.length*(2^n-1)) o w mb m V):=by
 have hk:=hsat.ok;have ce:=hB.e;have cl:=hB.l;have HB:=Hd hB;have HNO:=Hd hno;have hzl:=hB.z.len;obtain⟨I,hI⟩:∃ I:Nat->Nat->World->Prop,I=fun i r wr=>∃ o' m' V',AtC K (i*(2^n-1)) o w mb m V o' wr m' V'/\okE (Zab m'.d) r/\∀ j (h:j<ks.length),j<i->∃ F,(ks[j],F)∈fs:=⟨_,rfl⟩
 have HI0:Hid (I 0 e0 w):=by rw[hI];exact Hd ⟨o,m,V,(AtC.refl hsat.is hsat.lt hk.store).mono (by omega),.inl he0,fun j _ h=>by omega⟩
 have HICELL:Hid (∀ i r wr,I i r wr->∀ p v,w.cell? p=some v->o p.block=none->wr.cell? p=some v):=by rw[hI];exact Hd fun i r wr ⟨o',m',V',h,_⟩ p v hc ho=>h.st.chg.cell hc ho
 obtain⟨P,hP⟩:∃ P:Ending->World->Prop,P=BPost K (ks.length*(2^n-1)) o w mb m V:=⟨_,rfl⟩;have HFIN:Hid (∀ r wr,I ks.length r wr->False):=by
  rw[hI];exact Hd fun r wr ⟨o',m',V',h,h2,h3⟩=>by
   obtain⟨i,hi,hn⟩:=hbad;obtain⟨F,hF⟩:=h3 i hi hi;exact hn _ hF rfl
 have HSTEP:Hid (∀ i r wr,i<ks.length->I i r wr->(∃ f,(Calls Tryz.prog 81 #[.pointer (some ⟨xb,0,none⟩),.int .i64 (at0 ks i)] wr.drew fun x w'=>x=.returned (.int .i64 (f:Nat))/\wr.drew=w') /\
  Calls Tryz.prog g #[.pointer (some ⟨xb,0,none⟩),.int .i64 (r:Nat),.int .i64 (f:Nat)] wr.drew fun e w'=>(∃ v,e=.returned v/\(w'.cell? ⟨bf,0,none⟩=some (.func (.func g) #[] #[])/\True)/\∃ r':Nat,v=.int .i64 r'/\I (i+1) r' w')\/(∃ ch,e=.panicked ch/\P (.panicked ch) w')) \/
  Calls Tryz.prog 81 #[.pointer (some ⟨xb,0,none⟩),.int .i64 (at0 ks i)] wr.drew fun e w'=>(∃ v,e=.returned v/\False)\/(∃ ch,e=.panicked ch/\P (.panicked ch) w')):=by
  rw[hI,hP];refine Hd fun i r wr hi ⟨o',m',V',h,h2,h3⟩=>?_
  have hbd:Below wr.heap.size wr wr.drew:=Zai wr 1;have hd:=h.below hbd;have hx':=hx.chg hd.st.chg
  by_cases hmem:∃ F,(ks[i],F)∈fs
  ·
   obtain⟨F,hmem⟩:=hmem;obtain⟨f,hf,e1⟩:=hsat.find hmem;have hf':(ks[i],f)∈m'.hs:=by rw[hd.st.hs];exact hf
   have hfo:okE (Zab m'.d) f:=hd.st.ext.ok (hk.handles.ok _ hf);refine .inl ⟨f,by rw[Zcb hi];exact Zcs hd.st.is hx' (by rw[hd.st.hs];exact hk.handles.nodup) hf',?_⟩;refine(hG o' wr.drew xb mb m' V' r f hd.st.is hd.st.lt hx' hd.st.ok (hd.vars hsat.vars) h2 hfo).mono ?_;rintro e w' (⟨r',o2,m2,V2,rfl,q1,q2,q3⟩|⟨er,evt,ev,rfl,q⟩)
   ·
    have hq:=hd.trans q1;refine .inl ⟨_,rfl,⟨hq.st.chg.cell HB.out.f (HNO.out bf (.inr (.inr (.inl rfl)))),trivial⟩,r',rfl,o2,m2,V2,hq.mono (by rw[Nat.succ_mul];exact Nat.le_refl _),q2,fun j hj hji=>?_⟩;rcases Nat.lt_or_ge j i with c1|c1
    ·
     exact h3 j hj c1
    ·
     obtain rfl:j=i:=by omega
     exact⟨F,hmem⟩
   ·
    refine .inr ⟨_,rfl,er,evt,ev,rfl,.inl (q.after hd ?_)⟩;have:=Nat.mul_le_mul_right (2^n-1) (show i+1<=ks.length by omega);rw[Nat.succ_mul] at this;exact this
  ·
   refine .inr ?_;rw[Zcb hi];refine(ctxEdge_no hd.st.is hx' (fun f=>by rw[hd.st.hs];exact hsat.nofind (fun p hp e=>hmem ⟨p.2,by rw[<- e];exact hp⟩) f)).mono ?_;rintro e w' ⟨rfl,rfl⟩;exact .inr ⟨_,rfl,8,false,ev0,rfl,.inr ⟨rfl,rfl,rfl,o',m',V',hd.st,hd.waits⟩⟩
 rw[<- hP];clear hI hP hG hsat hB hno hx hk hbad
 go_enter Tryz.func160,Tryz.ntmps160
 go_wp2_with fail
 go_loopw [6,8,12] (fun s6 _ s12 wr=>∃ (i r:Nat),i<=ks.length/\s12=.int .i64 i/\s6=.int .i64 r/\Hid (I i r wr)) (fun _ _ s12 _=>ks.length-(intOf s12).toNat)
 case atStart=>exact⟨0,e0,Nat.zero_le _,rfl,rfl,HI0⟩
 case round =>
  obtain⟨i,r,hi,rfl,rfl,HI⟩:=hrel
  by_cases hlt:i<ks.length
  ·
   have hiz:(i:Int)<(ks.length:Int):=by omega
   obtain⟨b,off,rfl,ck⟩:=HB.out.z.cells i hlt;have ck1:=HICELL.out _ _ _ HI.out _ _ ck (HNO.out b (.inr (.inr (.inr ⟨_,rfl,rfl⟩))));have cf1:=HICELL.out _ _ _ HI.out _ _ HB.out.f (HNO.out bf (.inr (.inr (.inl rfl))));have hbd:Below wr.heap.size wr wr.drew:=Zai wr 1;have cf2:=(hbd.cell (p:=⟨bf,0,none⟩) (Zaa cf1)).trans cf1;rcases HSTEP.out i r _ hlt HI.out with ⟨f,hE,hS⟩|hE
   ·
    have HE:=Hd hE;have HS:=Hd hS;clear hE hS hbd cf1 ck ce cl HI0 HSTEP HFIN HI;go_upto_region 5 with fail;refine Zcz (fun W:World=>W.cell? ⟨bf,0,none⟩=some (.func (.func g) #[] #[])/\True) (fun ch w'=>P (.panicked ch) w') 8 (fun c a w hd h=>⟨hd,h⟩) (by kernel_rfl) ⟨cf2,trivial⟩ ?_;refine Zav 0 rfl rfl (by kernel_rfl) ?_;apply Exists.intro;refine⟨fun w' hw=>?_,?_⟩
    ·
     obtain⟨q1,q2⟩:=hw;go_simp;rfl
    simp only[Zah];refine Zav 1 rfl rfl (by kernel_rfl) ?_;apply Exists.intro;refine⟨fun w' hw=>?_,?_⟩
    ·
     obtain⟨q1,q2⟩:=hw;go_simp;rfl
    simp only[Zah];refine Zav 2 rfl rfl (by kernel_rfl) ?_;apply Exists.intro;refine⟨fun w' hw=>?_,?_⟩
    ·
     obtain⟨q1,q2⟩:=hw;go_simp;rfl
    simp only[Zah];refine Zav 3 rfl rfl (by kernel_rfl) ?_;apply Exists.intro;refine⟨fun w' hw=>?_,?_⟩
    ·
     obtain⟨q1,q2⟩:=hw;go_simp;rfl
    simp only[Zah];refine Zav 4 rfl rfl (by kernel_rfl) ?_;apply Exists.intro;refine⟨fun w' hw=>?_,?_⟩
    ·
     obtain⟨q1,q2⟩:=hw;go_simp;rfl
    simp only[Zah];refine Zb5 [5] (by kernel_rfl) (fun i hi hS o ho=>?_);simp only[Za6] at hi;subst hi;simp only[Za1] at ho;subst ho;refine⟨rfl,?_⟩;refine Zat (v:=.int .i64 (f:Nat)) (R:=fun w'=>wr.drew=w') (by go_simp) HE.out ?_;rintro w' rfl;refine⟨⟨cf2,trivial⟩,?_⟩;simp only[Zah];refine Zb5 [6] (by kernel_rfl) (fun i hi hS o ho=>?_);simp only[Za6] at hi;subst hi;simp only[Za1] at ho;subst ho;refine⟨rfl,?_⟩;refine Zfa (R:=fun v w'=>(w'.cell? ⟨bf,0,none⟩=some (.func (.func g) #[] #[])/\True)/\∃ r':Nat,v=.int .i64 r'/\I (i+1) r' w') (R2:=fun ch w'=>P (.panicked ch) w') (by go_simp) HS.out ?_ ?_
    ·
     rintro v w' ⟨hS,r',rfl,hst⟩;refine⟨hS,?_⟩;have HST:=Hd hst;clear hst;simp only[Zah];refine Zav 7 rfl rfl (by kernel_rfl) ?_;apply Exists.intro;refine⟨fun w' hw=>?_,?_⟩
     ·
      obtain⟨q1,q2⟩:=hw;go_simp;rfl
     simp only[Zah];refine Zga (by kernel_rfl) ?_;clear hS cf2 ck1;go_wp2_with fail;go_roundw
     case rel=>exact⟨i+1,r',by omega,by go_num,rfl,HST⟩
     case measure=>simp[intOf];omega
    ·
     intro ch w' hst;exact⟨rfl,hst⟩
   ·
    have HE:=Hd hE;clear hE hbd cf1 ck ce cl HI0 HSTEP HFIN HI;go_upto_region 5 with fail;refine Zcz (fun W:World=>W.cell? ⟨bf,0,none⟩=some (.func (.func g) #[] #[])/\True) (fun ch w'=>P (.panicked ch) w') 8 (fun c a w hd h=>⟨hd,h⟩) (by kernel_rfl) ⟨cf2,trivial⟩ ?_;refine Zav 0 rfl rfl (by kernel_rfl) ?_;apply Exists.intro;refine⟨fun w' hw=>?_,?_⟩
    ·
     obtain⟨q1,q2⟩:=hw;go_simp;rfl
    simp only[Zah];refine Zav 1 rfl rfl (by kernel_rfl) ?_;apply Exists.intro;refine⟨fun w' hw=>?_,?_⟩
    ·
     obtain⟨q1,q2⟩:=hw;go_simp;rfl
    simp only[Zah];refine Zav 2 rfl rfl (by kernel_rfl) ?_;apply Exists.intro;refine⟨fun w' hw=>?_,?_⟩
    ·
     obtain⟨q1,q2⟩:=hw;go_simp;rfl
    simp only[Zah];refine Zav 3 rfl rfl (by kernel_rfl) ?_;apply Exists.intro;refine⟨fun w' hw=>?_,?_⟩
    ·
     obtain⟨q1,q2⟩:=hw;go_simp;rfl
    simp only[Zah];refine Zav 4 rfl rfl (by kernel_rfl) ?_;apply Exists.intro;refine⟨fun w' hw=>?_,?_⟩
    ·
     obtain⟨q1,q2⟩:=hw;go_simp;rfl
    simp only[Zah];refine Zb5 [5] (by kernel_rfl) (fun i hi hS o ho=>?_);simp only[Za6] at hi;subst hi;simp only[Za1] at ho;subst ho;refine⟨rfl,?_⟩;refine Zfa (R:=fun _ _=>False) (R2:=fun ch w'=>P (.panicked ch) w') (by go_simp) HE.out ?_ ?_
    ·
     intro v w' hst;exact hst.elim
    ·
     intro ch w' hst;exact⟨rfl,hst⟩
  ·
   obtain rfl:i=ks.length:=by omega
   exact(HFIN.out r _ HI.out).elim
end
open Go.RowKit
section
variable {K:Law} {n:Nat} {room:Nat} {w0 w:World} {mb:Nat} {fs:List (Int×BF)} {nx:Int} {o:Own} {m:ManD} {V:Nat->BF} {ws0:List Ev}
theorem both_bad (hK:Zbp K) {g:Nat} (h:SatE K n (fun _=>True) room w0 mb fs nx w o m V) {ka kb:Int} (hbad:(∀ p∈fs,p.1≠ka)\/(∃ F,(ka,F)∈fs)/\∀ p∈fs,p.1≠kb) (hst:m.waits <:+ ws0) (hn:nx<=549755813888) (hr:fs.length*2^n<=room) :
 Calls Tryz.prog 167 #[.pointer (some ⟨mb,0,none⟩),.func (.func g) #[] #[],.int .i64 ka,.int .i64 kb] w (BadF K n room w0 mb fs nx ws0 (.tuple #[.int .i64 0,.int .i64 8]) o w):=by
 have hmf:∀ (fn:Fn) (first cap:Array Value) (w:World),(Instr.makeFunc fn first cap).run Tryz.prog w=.ok (.func fn first cap) w:=fun _ _ _ _=>rfl
 obtain⟨w3,hw3,hb3,hz3,c0,c1,c2⟩:=boxes3v w (.func (.func g) #[] #[]) (.int .i64 ka) (.int .i64 kb) 189 3 3;have HW3:Hid (_=w3):=Hd hw3.symm
 have HDO:=Hd (do_bad (C:=C3 (w.heap.size+1) w.heap.size (w.heap.size+1+1)) (B:=BoB (w.heap.size+1) w.heap.size (w.heap.size+1+1) ka kb g) (k:=0) (lop:=#[.pointer (some ⟨w.heap.size+1,0,none⟩),.pointer (some ⟨w.heap.size,0,none⟩),.pointer (some ⟨w.heap.size+1+1,0,none⟩)]) hK Znw ws0 BoB.keep
  (fun o W m V xb hs hB hC hx _=>(both1_b hbad hs hB hx).mono fun e w' ⟨h1,h2⟩=>⟨8,false,ev0,h1,.inr ⟨rfl,rfl,rfl,o,m,V,((AtC.refl hs.is hs.lt hs.ok.store).below h2).st,rfl⟩⟩) h hb3 (by rintro c (rfl|rfl|rfl)<;>exact⟨by omega,.inl (by omega)⟩) ⟨c1,c0,c2⟩ hst hn (by omega))
 clear hw3 hb3 hz3 c0 c1 c2 h hK hst hn hr hbad;obtain⟨P,hP⟩:∃ P,P=BadF K n room w0 mb fs nx ws0 (.tuple #[.int .i64 0,.int .i64 8]) o w:=⟨_,rfl⟩;rw[<- hP] at HDO ⊢;have HT:Hid (∀ x w',P x w'->∃ a b,x=.returned (.tuple #[.int .i64 a,.int .i64 b])):=Hd (by subst hP;rintro x w' ⟨rfl,_⟩;exact⟨_,_,rfl⟩);clear hP
 go_enter Tryz.func167,Tryz.ntmps167
 go_upto_region 1 with fail;rw[HW3.out];go_wp2_with fail;refine HDO.out.mono ?_;intro x w' hd;obtain⟨a,b,rfl⟩:=HT.out x w' hd;have HD:=Hd hd;clear hd;go_wp2_with fail;exact HD.out
theorem fold_bad (hK:Zbp K) {g:Nat} {G:BF->BF->BF} (hG:Zg9 K n g G) (eg:∀ args w,(callFunc g args).run Tryz.prog w=.ok (.enter g args) w) (h:SatE K n (fun _=>True) room w0 mb fs nx w o m V) {e0:Nat} (he0:e0/2=0) {c:Nat} {a:Option Addr} {ks:List Int} (hz:Za4 w a ks) (ha:∀ x,a=some x->x.block<w.heap.size/\w0.heap.size<=x.block/\o x.block=none) (hbad:∃ i,∃ h:i<ks.length,∀ p∈fs,p.1≠ks[i]) (hst:m.waits <:+ ws0) (hn:nx<=549755813888) (hr:fs.length*2^n+ks.length*(2^n-1)<=room) :
 Calls Tryz.prog 90 #[.pointer (some ⟨mb,0,none⟩),.int .i64 e0,.func (.func g) #[] #[],.slice a ks.length c] w (BadF K n room w0 mb fs nx ws0 (.tuple #[.int .i64 0,.int .i64 8]) o w):=by
 have hmf:∀ (fn:Fn) (first cap:Array Value) (w:World),(Instr.makeFunc fn first cap).run Tryz.prog w=.ok (.func fn first cap) w:=fun _ _ _ _=>rfl
 obtain⟨w3,hw3,hb3,hz3,c0,c1,c2⟩:=boxes3v w (.int .i64 e0) (.func (.func g) #[] #[]) (.slice a ks.length c) 116 189 22;have HW3:Hid (_=w3):=Hd hw3.symm
 have HDO:=Hd (do_bad (C:=fun k=>k=w.heap.size\/k=w.heap.size+1+1\/k=w.heap.size+1\/∃ x,a=some x/\k=x.block) (B:=fun W=>BoF w.heap.size (w.heap.size+1+1) (w.heap.size+1) e0 a c ks g W/\∀ x,a=some x->W.heap[x.block]?=w.heap[x.block]?) (k:=ks.length*(2^n-1)) (lop:=#[.pointer (some ⟨w.heap.size,0,none⟩),.pointer (some ⟨w.heap.size+1+1,0,none⟩),.pointer (some ⟨w.heap.size+1,0,none⟩)]) hK Znx ws0
  (fun W W' hB hk=>⟨⟨(World.cell?_of_block (w:=W) (a:=⟨w.heap.size,0,none⟩) (hk _ (.inl rfl))).trans hB.1.e,(World.cell?_of_block (w:=W) (a:=⟨w.heap.size+1+1,0,none⟩) (hk _ (.inr (.inl rfl)))).trans hB.1.l,(World.cell?_of_block (w:=W) (a:=⟨w.heap.size+1,0,none⟩) (hk _ (.inr (.inr (.inl rfl))))).trans hB.1.f,⟨hB.1.z.len,fun i hi=>by
   obtain⟨b,off,e,hc⟩:=hB.1.z.cells i hi;exact⟨b,off,e,(World.cell?_of_block (w:=W) (a:=⟨b,off+i,none⟩) (hk _ (.inr (.inr (.inr ⟨_,e,rfl⟩))))).trans hc⟩⟩⟩,fun x hx=>(hk _ (.inr (.inr (.inr ⟨x,hx,rfl⟩)))).trans (hB.2 x hx)⟩)
  (fun o W m V xb hs hB hC hx _=>fold1_b hG eg he0 hbad hs hB.1 (fun k hk=>(hC k hk).2) hx) h hb3 (by
   rintro k (rfl|rfl|rfl|⟨x,hx,rfl⟩)
   ·
    exact⟨by omega,.inl (by omega)⟩
   ·
    exact⟨by omega,.inl (by omega)⟩
   ·
    exact⟨by omega,.inl (by omega)⟩
   ·
    have:=ha x hx;exact⟨by omega,.inr ⟨this.2.1,this.2.2,fun W hW=>hW.2 x hx⟩⟩) ⟨⟨c0,c2,c1,hz.below hb3⟩,fun x hx=>hb3.block _ (ha x hx).1⟩ hst hn hr)
 clear hw3 hb3 hz3 c0 c1 c2 h hK hG hst hn hr hz ha hbad;obtain⟨P,hP⟩:∃ P,P=BadF K n room w0 mb fs nx ws0 (.tuple #[.int .i64 0,.int .i64 8]) o w:=⟨_,rfl⟩;rw[<- hP] at HDO ⊢;have HT:Hid (∀ x w',P x w'->∃ a b,x=.returned (.tuple #[.int .i64 a,.int .i64 b])):=Hd (by subst hP;rintro x w' ⟨rfl,_⟩;exact⟨_,_,rfl⟩);clear hP
 go_enter Tryz.func90,Tryz.ntmps90
 go_upto_region 1 with fail;rw[HW3.out];go_wp2_with fail;refine HDO.out.mono ?_;intro x w' hd;obtain⟨a,b,rfl⟩:=HT.out x w' hd;have HD:=Hd hd;clear hd;go_wp2_with fail;exact HD.out
theorem do_nil (g:Fn) (fs cs:Array Value) (w:World):Calls Tryz.prog 75 #[.pointer none,.func g fs cs] w fun x w'=>x=.returned (.tuple #[.int .i64 0,.int .i64 5])/\Below w.heap.size w w':=by
 go_enter Tryz.func75,Tryz.ntmps75
 go_wp2_with fail
 go_ret2
 first|exact⟨rfl,Below.refl _ _⟩|exact⟨rfl,Zad _ _⟩
theorem fold_nil {g e0:Nat} {c n:Nat} {a:Option Addr} (w:World) :
 Calls Tryz.prog 90 #[.pointer none,.int .i64 e0,.func (.func g) #[] #[],.slice a n c] w fun x w'=>x=.returned (.tuple #[.int .i64 0,.int .i64 5])/\Below w.heap.size w w':=by
 have hmf:∀ (fn:Fn) (first cap:Array Value) (w:World),(Instr.makeFunc fn first cap).run Tryz.prog w=.ok (.func fn first cap) w:=fun _ _ _ _=>rfl
 obtain⟨w3,hw3,hb3,hz3,c0,c1,c2⟩:=boxes3v w (.int .i64 e0) (.func (.func g) #[] #[]) (.slice a n c) 116 189 22;have HW3:Hid (_=w3):=Hd hw3.symm;have HDO:Hid (∀ fs,Calls Tryz.prog 75 #[.pointer none,.func (.func 160) #[] fs] w3 fun x w'=>x=.returned (.tuple #[.int .i64 0,.int .i64 5])/\Below w3.heap.size w3 w'):=Hd fun fs=>do_nil _ _ _ _
 have HB3:=Hd hb3;clear hw3 hb3 hz3 c0 c1 c2
 go_enter Tryz.func90,Tryz.ntmps90
 go_upto_region 1 with fail;rw[HW3.out];go_wp2_with fail;refine(HDO.out _).mono ?_;rintro x w' ⟨rfl,hb⟩;have HF:=Hd (HB3.out.trans (hb.mono HB3.out.size));clear hb;go_wp2_with fail
 first|exact⟨rfl,HF.out⟩|(go_ret2;exact⟨rfl,HF.out⟩)
theorem is1_opb {g:Nat} {ba bf bb bw bs e0:Nat} {ka kb:Int} (hbad:(∀ p∈fs,p.1≠ka)\/(∃ F,(ka,F)∈fs)/\∀ p∈fs,p.1≠kb) (ws0:List Ev) :
 OpL K n (fun _=>True) room w0 mb fs nx (C5 ba bf bb bw bs) (fun W=>BoI ba bf bb bw ka kb g e0 W/\∃ z:Bool,W.heap[bs]?=some (.cells #[.bool z] 4 (0,0))) (fun m=>m.waits <:+ ws0) 177 #[.pointer (some ⟨ba,0,none⟩),.pointer (some ⟨bf,0,none⟩),.pointer (some ⟨bb,0,none⟩),.pointer (some ⟨bw,0,none⟩),.pointer (some ⟨bs,0,none⟩)]
  (fun _ _ _=>False) (fun er _ m'=>er=8/\m'.waits <:+ ws0):=by
 intro o W m V xb hsat hB hC hst hcx hnx;obtain⟨hB,z,hz⟩:=hB;refine(is1_b hbad hsat hB hcx).mono ?_;rintro e w' ⟨rfl,hb⟩;have st:=((AtC.refl hsat.is hsat.lt hsat.ok.store).below hb).st;exact⟨o,m,V,st.toX _,⟨hB.keep fun c hc=>hb.block c (hC c (.inl hc)).1,z,(hb.block bs (hC bs (.inr rfl)).1).trans hz⟩,.inr (.inl ⟨8,rfl,by omega,rfl,hst,rfl,hst⟩)⟩
theorem is_bad {g:Nat} (h:SatE K n (fun _=>True) room w0 mb fs nx w o m V) {e0:Nat} {ka kb:Int} (hbad:(∀ p∈fs,p.1≠ka)\/(∃ F,(ka,F)∈fs)/\∀ p∈fs,p.1≠kb) (hst:m.waits <:+ ws0) :
 Calls Tryz.prog 119 #[.pointer (some ⟨mb,0,none⟩),.func (.func g) #[] #[],.int .i64 ka,.int .i64 kb,.int .i64 e0] w (BadF K n room w0 mb fs nx ws0 (.tuple #[.bool false,.int .i64 8]) o w):=by
 have hmf:∀ (fn:Fn) (first cap:Array Value) (w:World),(Instr.makeFunc fn first cap).run Tryz.prog w=.ok (.func fn first cap) w:=fun _ _ _ _=>rfl
 obtain⟨w5,hw5,hb5,hz5,c0,c1,c2,c3,c4⟩:=boxes5v w (.func (.func g) #[] #[]) (.int .i64 ka) (.int .i64 kb) (.int .i64 e0) (.bool false) 189 3 3 116 4;have HW5:Hid (_=w5):=Hd hw5.symm;have hw0:=h.chg.size;have hop:=is1_opb (K:=K) (n:=n) (fs:=fs) (nx:=nx) (g:=g) (e0:=e0) (room:=room) (w0:=w0) (mb:=mb) (ba:=w.heap.size+1) (bf:=w.heap.size) (bb:=w.heap.size+1+1) (bw:=w.heap.size+1+1+1) (bs:=w.heap.size+1+1+1+1) hbad ws0;obtain⟨s,hs⟩:∃ s,s=w.heap.size+1+1+1+1:=⟨_,rfl⟩
 have HL:Hid (Calls Tryz.prog 176 #[.pointer (some ⟨mb,0,none⟩),.func (.func 177) #[] #[.pointer (some ⟨w.heap.size+1,0,none⟩),.pointer (some ⟨w.heap.size,0,none⟩),.pointer (some ⟨w.heap.size+1+1,0,none⟩),.pointer (some ⟨w.heap.size+1+1+1,0,none⟩),.pointer (some ⟨w.heap.size+1+1+1+1,0,none⟩)]] w5 fun x w'=>x=.returned (.int .i64 8)/\(∃ b:Bool,w'.cell? ⟨w.heap.size+1+1+1+1,0,none⟩=some (.bool b))/\(BadF K n room w0 mb fs nx ws0 (.tuple #[.bool false,.int .i64 8]) o w) (.returned (.tuple #[.bool false,.int .i64 8])) w'):=Hd (by
  refine(Zwx (fun W W' hB hk=>⟨hB.1.keep fun c hc=>hk c (.inl hc),hB.2.imp fun z hz=>(hk _ (.inr rfl)).trans hz⟩) (fun W W' m V hq hk=>hq.elim) (fun m d hm _=>hm) (fun c hc=>?_) Zrv hop (h.below hb5) ⟨⟨c1,c0,c2,c3⟩,false,c4⟩ (fun c hc=>?_) hst).mono ?_
  ·
   rcases hc with (rfl|rfl|rfl|rfl)|rfl<;>omega
  ·
   rcases hc with (rfl|rfl|rfl|rfl)|rfl<;>exact⟨by omega,h.lt.none (by omega)⟩
  ·
   rintro x w' ⟨er,rfl,o',m',V',hs',⟨_,z,hz⟩,hc,⟨_,hf⟩|⟨_,m0,⟨rfl,hq2⟩,_⟩⟩
   ·
    exact hf.elim
   ·
    refine⟨rfl,⟨z,cell1 hz⟩,rfl,o',m',V',(ChgX.of_below hb5 o NoB).trans hc (fun k hk e=>?_),hq2,hs'⟩;rcases e with (rfl|rfl|rfl|rfl)|rfl<;>omega)
 clear hw5 hb5 hz5 c0 c1 c2 c3 c4 h hst hop hw0 hbad;obtain⟨P,hP⟩:∃ P,P=BadF K n room w0 mb fs nx ws0 (.tuple #[.bool false,.int .i64 8]) o w:=⟨_,rfl⟩;rw[<- hP] at HL ⊢;clear hP;rw[<- hs] at HL;have HS:=Hd hs;clear hs
 go_enter Tryz.func119,Tryz.ntmps119
 go_upto_region 2 with fail;rw[HW5.out];rw[<- HS.out];go_wp2_with fail;refine HL.out.mono ?_;rintro x w' ⟨rfl,⟨b,hc⟩,hf⟩;have HF:=Hd hf;clear hf HL;cases b with
 | true =>
   go_wp2_with fail;exact HF.out
 | false =>
   go_wp2_with fail;exact HF.out
theorem ops_and_bad (hK:Zbp K) (h:SatE K n (fun _=>True) room w0 mb fs nx w o m V) {c:Nat} {a:Option Addr} {ks:List Int} (hz:Za4 w a ks) (ha:∀ x,a=some x->x.block<w.heap.size/\w0.heap.size<=x.block/\o x.block=none) (hbad:∃ i,∃ h:i<ks.length,∀ p∈fs,p.1≠ks[i]) (hst:m.waits <:+ ws0) (hn:nx<=549755813888) (hr:fs.length*2^n+ks.length*(2^n-1)<=room) :
 Calls Tryz.prog 26 #[.pointer (some ⟨mb,0,none⟩),.slice a ks.length c] w (BadF K n room w0 mb fs nx ws0 (.tuple #[.int .i64 0,.int .i64 8]) o w):=by
 have HC:=Hd (fold_bad (c:=c) hK (Yan hK) Zrs h (e0:=0) rfl hz ha hbad hst hn hr);clear h hK hz ha hbad hst hn hr;obtain⟨P,hP⟩:∃ P,P=BadF K n room w0 mb fs nx ws0 (.tuple #[.int .i64 0,.int .i64 8]) o w:=⟨_,rfl⟩;rw[<- hP] at HC ⊢;have HT:Hid (∀ x w',P x w'->∃ a b,x=.returned (.tuple #[.int .i64 a,.int .i64 b])):=Hd (by subst hP;rintro x w' ⟨rfl,_⟩;exact⟨_,_,rfl⟩);clear hP
 go_enter Tryz.func26,Tryz.ntmps26
 go_wp2_with fail;refine HC.out.mono ?_;intro x w' hd;obtain⟨a,b,rfl⟩:=HT.out x w' hd;have HD:=Hd hd;clear hd;go_wp2_with fail;exact HD.out
theorem ops_and_nil {c n:Nat} {a:Option Addr} (w:World) :
 Calls Tryz.prog 26 #[.pointer none,.slice a n c] w fun x w'=>x=.returned (.tuple #[.int .i64 0,.int .i64 5])/\Below w.heap.size w w':=by
 have HC:=Hd (fold_nil (g:=91) (e0:=0) (c:=c) (n:=n) (a:=a) w)
 go_enter Tryz.func26,Tryz.ntmps26
 go_wp2_with fail;refine HC.out.mono ?_;rintro x w' ⟨rfl,hd⟩;have HD:=Hd hd;clear hd;go_wp2_with fail
 go_ret2
 exact⟨rfl,HD.out⟩
theorem ops_or_bad (hK:Zbp K) (h:SatE K n (fun _=>True) room w0 mb fs nx w o m V) {c:Nat} {a:Option Addr} {ks:List Int} (hz:Za4 w a ks) (ha:∀ x,a=some x->x.block<w.heap.size/\w0.heap.size<=x.block/\o x.block=none) (hbad:∃ i,∃ h:i<ks.length,∀ p∈fs,p.1≠ks[i]) (hst:m.waits <:+ ws0) (hn:nx<=549755813888) (hr:fs.length*2^n+ks.length*(2^n-1)<=room) :
 Calls Tryz.prog 114 #[.pointer (some ⟨mb,0,none⟩),.slice a ks.length c] w (BadF K n room w0 mb fs nx ws0 (.tuple #[.int .i64 0,.int .i64 8]) o w):=by
 have HC:=Hd (fold_bad (c:=c) hK (Yap hK) Zny h (e0:=1) rfl hz ha hbad hst hn hr);clear h hK hz ha hbad hst hn hr;obtain⟨P,hP⟩:∃ P,P=BadF K n room w0 mb fs nx ws0 (.tuple #[.int .i64 0,.int .i64 8]) o w:=⟨_,rfl⟩;rw[<- hP] at HC ⊢;have HT:Hid (∀ x w',P x w'->∃ a b,x=.returned (.tuple #[.int .i64 a,.int .i64 b])):=Hd (by subst hP;rintro x w' ⟨rfl,_⟩;exact⟨_,_,rfl⟩);clear hP
 go_enter Tryz.func114,Tryz.ntmps114
 go_wp2_with fail;refine HC.out.mono ?_;intro x w' hd;obtain⟨a,b,rfl⟩:=HT.out x w' hd;have HD:=Hd hd;clear hd;go_wp2_with fail;exact HD.out
theorem ops_or_nil {c n:Nat} {a:Option Addr} (w:World) :
 Calls Tryz.prog 114 #[.pointer none,.slice a n c] w fun x w'=>x=.returned (.tuple #[.int .i64 0,.int .i64 5])/\Below w.heap.size w w':=by
 have HC:=Hd (fold_nil (g:=169) (e0:=1) (c:=c) (n:=n) (a:=a) w)
 go_enter Tryz.func114,Tryz.ntmps114
 go_wp2_with fail;refine HC.out.mono ?_;rintro x w' ⟨rfl,hd⟩;have HD:=Hd hd;clear hd;go_wp2_with fail
 go_ret2
 exact⟨rfl,HD.out⟩
theorem ops_xor_bad (hK:Zbp K) (h:SatE K n (fun _=>True) room w0 mb fs nx w o m V) {c:Nat} {a:Option Addr} {ks:List Int} (hz:Za4 w a ks) (ha:∀ x,a=some x->x.block<w.heap.size/\w0.heap.size<=x.block/\o x.block=none) (hbad:∃ i,∃ h:i<ks.length,∀ p∈fs,p.1≠ks[i]) (hst:m.waits <:+ ws0) (hn:nx<=549755813888) (hr:fs.length*2^n+ks.length*(2^n-1)<=room) :
 Calls Tryz.prog 115 #[.pointer (some ⟨mb,0,none⟩),.slice a ks.length c] w (BadF K n room w0 mb fs nx ws0 (.tuple #[.int .i64 0,.int .i64 8]) o w):=by
 have HC:=Hd (fold_bad (c:=c) hK (Yaq hK) Zrx h (e0:=1) rfl hz ha hbad hst hn hr);clear h hK hz ha hbad hst hn hr;obtain⟨P,hP⟩:∃ P,P=BadF K n room w0 mb fs nx ws0 (.tuple #[.int .i64 0,.int .i64 8]) o w:=⟨_,rfl⟩;rw[<- hP] at HC ⊢;have HT:Hid (∀ x w',P x w'->∃ a b,x=.returned (.tuple #[.int .i64 a,.int .i64 b])):=Hd (by subst hP;rintro x w' ⟨rfl,_⟩;exact⟨_,_,rfl⟩);clear hP
 go_enter Tryz.func115,Tryz.ntmps115
 go_wp2_with fail;refine HC.out.mono ?_;intro x w' hd;obtain⟨a,b,rfl⟩:=HT.out x w' hd;have HD:=Hd hd;clear hd;go_wp2_with fail;exact HD.out
theorem ops_xor_nil {c n:Nat} {a:Option Addr} (w:World) :
 Calls Tryz.prog 115 #[.pointer none,.slice a n c] w fun x w'=>x=.returned (.tuple #[.int .i64 0,.int .i64 5])/\Below w.heap.size w w':=by
 have HC:=Hd (fold_nil (g:=170) (e0:=1) (c:=c) (n:=n) (a:=a) w)
 go_enter Tryz.func115,Tryz.ntmps115
 go_wp2_with fail;refine HC.out.mono ?_;rintro x w' ⟨rfl,hd⟩;have HD:=Hd hd;clear hd;go_wp2_with fail
 go_ret2
 exact⟨rfl,HD.out⟩
theorem ops_imp_bad (hK:Zbp K) (h:SatE K n (fun _=>True) room w0 mb fs nx w o m V) {ka kb:Int} (hbad:(∀ p∈fs,p.1≠ka)\/(∃ F,(ka,F)∈fs)/\∀ p∈fs,p.1≠kb) (hst:m.waits <:+ ws0) (hn:nx<=549755813888) (hr:fs.length*2^n<=room) :
 Calls Tryz.prog 117 #[.pointer (some ⟨mb,0,none⟩),.int .i64 ka,.int .i64 kb] w (BadF K n room w0 mb fs nx ws0 (.tuple #[.int .i64 0,.int .i64 8]) o w):=by
 have HC:=Hd (both_bad hK (g:=120) h hbad hst hn hr);clear h hK hbad hst hn hr;obtain⟨P,hP⟩:∃ P,P=BadF K n room w0 mb fs nx ws0 (.tuple #[.int .i64 0,.int .i64 8]) o w:=⟨_,rfl⟩;rw[<- hP] at HC ⊢;have HT:Hid (∀ x w',P x w'->∃ a b,x=.returned (.tuple #[.int .i64 a,.int .i64 b])):=Hd (by subst hP;rintro x w' ⟨rfl,_⟩;exact⟨_,_,rfl⟩);clear hP
 go_enter Tryz.func117,Tryz.ntmps117
 go_wp2_with fail;refine HC.out.mono ?_;intro x w' hd;obtain⟨a,b,rfl⟩:=HT.out x w' hd;have HD:=Hd hd;clear hd;go_wp2_with fail;exact HD.out
theorem ops_iff_bad (hK:Zbp K) (h:SatE K n (fun _=>True) room w0 mb fs nx w o m V) {ka kb:Int} (hbad:(∀ p∈fs,p.1≠ka)\/(∃ F,(ka,F)∈fs)/\∀ p∈fs,p.1≠kb) (hst:m.waits <:+ ws0) (hn:nx<=549755813888) (hr:fs.length*2^n<=room) :
 Calls Tryz.prog 118 #[.pointer (some ⟨mb,0,none⟩),.int .i64 ka,.int .i64 kb] w (BadF K n room w0 mb fs nx ws0 (.tuple #[.int .i64 0,.int .i64 8]) o w):=by
 have HC:=Hd (both_bad hK (g:=175) h hbad hst hn hr);clear h hK hbad hst hn hr;obtain⟨P,hP⟩:∃ P,P=BadF K n room w0 mb fs nx ws0 (.tuple #[.int .i64 0,.int .i64 8]) o w:=⟨_,rfl⟩;rw[<- hP] at HC ⊢;have HT:Hid (∀ x w',P x w'->∃ a b,x=.returned (.tuple #[.int .i64 a,.int .i64 b])):=Hd (by subst hP;rintro x w' ⟨rfl,_⟩;exact⟨_,_,rfl⟩);clear hP
 go_enter Tryz.func118,Tryz.ntmps118
 go_wp2_with fail;refine HC.out.mono ?_;intro x w' hd;obtain⟨a,b,rfl⟩:=HT.out x w' hd;have HD:=Hd hd;clear hd;go_wp2_with fail;exact HD.out
theorem ops_diff_bad (hK:Zbp K) (h:SatE K n (fun _=>True) room w0 mb fs nx w o m V) {ka kb:Int} (hbad:(∀ p∈fs,p.1≠ka)\/(∃ F,(ka,F)∈fs)/\∀ p∈fs,p.1≠kb) (hst:m.waits <:+ ws0) (hn:nx<=549755813888) (hr:fs.length*2^n<=room) :
 Calls Tryz.prog 113 #[.pointer (some ⟨mb,0,none⟩),.int .i64 ka,.int .i64 kb] w (BadF K n room w0 mb fs nx ws0 (.tuple #[.int .i64 0,.int .i64 8]) o w):=by
 have HC:=Hd (both_bad hK (g:=168) h hbad hst hn hr);clear h hK hbad hst hn hr;obtain⟨P,hP⟩:∃ P,P=BadF K n room w0 mb fs nx ws0 (.tuple #[.int .i64 0,.int .i64 8]) o w:=⟨_,rfl⟩;rw[<- hP] at HC ⊢;have HT:Hid (∀ x w',P x w'->∃ a b,x=.returned (.tuple #[.int .i64 a,.int .i64 b])):=Hd (by subst hP;rintro x w' ⟨rfl,_⟩;exact⟨_,_,rfl⟩);clear hP
 go_enter Tryz.func113,Tryz.ntmps113
 go_wp2_with fail;refine HC.out.mono ?_;intro x w' hd;obtain⟨a,b,rfl⟩:=HT.out x w' hd;have HD:=Hd hd;clear hd;go_wp2_with fail;exact HD.out
theorem within_bad (h:SatE K n (fun _=>True) room w0 mb fs nx w o m V) {ka kb:Int} (hbad:(∀ p∈fs,p.1≠ka)\/(∃ F,(ka,F)∈fs)/\∀ p∈fs,p.1≠kb) (hst:m.waits <:+ ws0) :
 Calls Tryz.prog 52 #[.pointer (some ⟨mb,0,none⟩),.int .i64 ka,.int .i64 kb] w (BadF K n room w0 mb fs nx ws0 (.tuple #[.bool false,.int .i64 8]) o w):=by
 have HC:=Hd (is_bad (g:=120) h (e0:=0) hbad hst);clear h hbad hst;obtain⟨P,hP⟩:∃ P,P=BadF K n room w0 mb fs nx ws0 (.tuple #[.bool false,.int .i64 8]) o w:=⟨_,rfl⟩;rw[<- hP] at HC ⊢;have HT:Hid (∀ x w',P x w'->∃ (a:Bool) (b:Int),x=.returned (.tuple #[.bool a,.int .i64 b])):=Hd (by subst hP;rintro x w' ⟨rfl,_⟩;exact⟨_,_,rfl⟩);clear hP
 go_enter Tryz.func52,Tryz.ntmps52
 go_wp2_with fail;refine HC.out.mono ?_;intro x w' hd;obtain⟨a,b,rfl⟩:=HT.out x w' hd;have HD:=Hd hd;clear hd;go_wp2_with fail;exact HD.out
theorem meets_bad (h:SatE K n (fun _=>True) room w0 mb fs nx w o m V) {ka kb:Int} (hbad:(∀ p∈fs,p.1≠ka)\/(∃ F,(ka,F)∈fs)/\∀ p∈fs,p.1≠kb) (hst:m.waits <:+ ws0) :
 Calls Tryz.prog 53 #[.pointer (some ⟨mb,0,none⟩),.int .i64 ka,.int .i64 kb] w (BadF K n room w0 mb fs nx ws0 (.tuple #[.bool false,.int .i64 8]) o w):=by
 have HC:=Hd (is_bad (g:=91) h (e0:=1) hbad hst);clear h hbad hst
 go_enter Tryz.func53,Tryz.ntmps53
 go_wp2_with fail;refine HC.out.mono ?_;rintro x w' ⟨rfl,hd⟩;have HD:=Hd hd;clear hd;go_wp2_with fail
 go_ret2
 exact⟨rfl,HD.out⟩
theorem join14_bad (hK:Zbp K) (h:SatE K n (fun _=>True) room w0 mb fs nx w o m V) {c:Nat} {a:Option Addr} {ks:List Int} (hz:Za4 w a ks) (ha:∀ x,a=some x->x.block<w.heap.size/\w0.heap.size<=x.block/\o x.block=none) (hbad:∃ i,∃ h:i<ks.length,∀ p∈fs,p.1≠ks[i]) (hst:m.waits <:+ ws0) (hn:nx<=549755813888) (hr:fs.length*2^n+ks.length*(2^n-1)<=room) (k:Nat) (hk:k<3) :
 Calls Tryz.prog 49 #[.pointer (some ⟨mb,0,none⟩),.int .i64 k,.slice a ks.length c] w (BadF K n room w0 mb fs nx ws0 (.tuple #[.int .i64 0,.int .i64 8]) o w):=by
 rcases(show k=0\/k=1\/k=2 by omega) with rfl|rfl|rfl
 ·
  have HC:=Hd (ops_and_bad (c:=c) hK h hz ha hbad hst hn hr);clear h hK hz ha hbad hst hn hr hk;obtain⟨P,hP⟩:∃ P,P=BadF K n room w0 mb fs nx ws0 (.tuple #[.int .i64 0,.int .i64 8]) o w:=⟨_,rfl⟩;rw[<- hP] at HC ⊢;have HT:Hid (∀ x w',P x w'->∃ a b,x=.returned (.tuple #[.int .i64 a,.int .i64 b])):=Hd (by subst hP;rintro x w' ⟨rfl,_⟩;exact⟨_,_,rfl⟩);clear hP
  go_enter Tryz.func49,Tryz.ntmps49
  go_wp2_with fail;refine HC.out.mono ?_;intro x w' hd;obtain⟨a,b,rfl⟩:=HT.out x w' hd;have HD:=Hd hd;clear hd;go_wp2_with fail;exact HD.out
 ·
  have HC:=Hd (ops_or_bad (c:=c) hK h hz ha hbad hst hn hr);clear h hK hz ha hbad hst hn hr hk;obtain⟨P,hP⟩:∃ P,P=BadF K n room w0 mb fs nx ws0 (.tuple #[.int .i64 0,.int .i64 8]) o w:=⟨_,rfl⟩;rw[<- hP] at HC ⊢;have HT:Hid (∀ x w',P x w'->∃ a b,x=.returned (.tuple #[.int .i64 a,.int .i64 b])):=Hd (by subst hP;rintro x w' ⟨rfl,_⟩;exact⟨_,_,rfl⟩);clear hP
  go_enter Tryz.func49,Tryz.ntmps49
  go_wp2_with fail;refine HC.out.mono ?_;intro x w' hd;obtain⟨a,b,rfl⟩:=HT.out x w' hd;have HD:=Hd hd;clear hd;go_wp2_with fail;exact HD.out
 ·
  have HC:=Hd (ops_xor_bad (c:=c) hK h hz ha hbad hst hn hr);clear h hK hz ha hbad hst hn hr hk;obtain⟨P,hP⟩:∃ P,P=BadF K n room w0 mb fs nx ws0 (.tuple #[.int .i64 0,.int .i64 8]) o w:=⟨_,rfl⟩;rw[<- hP] at HC ⊢;have HT:Hid (∀ x w',P x w'->∃ a b,x=.returned (.tuple #[.int .i64 a,.int .i64 b])):=Hd (by subst hP;rintro x w' ⟨rfl,_⟩;exact⟨_,_,rfl⟩);clear hP
  go_enter Tryz.func49,Tryz.ntmps49
  go_wp2_with fail;refine HC.out.mono ?_;intro x w' hd;obtain⟨a,b,rfl⟩:=HT.out x w' hd;have HD:=Hd hd;clear hd;go_wp2_with fail;exact HD.out
theorem join14_nil {c n:Nat} {a:Option Addr} (w:World) (k:Nat) (hk:k<3) :
 Calls Tryz.prog 49 #[.pointer none,.int .i64 k,.slice a n c] w fun x w'=>x=.returned (.tuple #[.int .i64 0,.int .i64 5])/\Below w.heap.size w w':=by
 rcases(show k=0\/k=1\/k=2 by omega) with rfl|rfl|rfl
 ·
  have HC:=Hd (ops_and_nil (c:=c) (n:=n) (a:=a) w);clear hk
  go_enter Tryz.func49,Tryz.ntmps49
  go_wp2_with fail;refine HC.out.mono ?_;rintro x w' ⟨rfl,hd⟩;have HD:=Hd hd;clear hd;go_wp2_with fail
  go_ret2
  exact⟨rfl,HD.out⟩
 ·
  have HC:=Hd (ops_or_nil (c:=c) (n:=n) (a:=a) w);clear hk
  go_enter Tryz.func49,Tryz.ntmps49
  go_wp2_with fail;refine HC.out.mono ?_;rintro x w' ⟨rfl,hd⟩;have HD:=Hd hd;clear hd;go_wp2_with fail
  go_ret2
  exact⟨rfl,HD.out⟩
 ·
  have HC:=Hd (ops_xor_nil (c:=c) (n:=n) (a:=a) w);clear hk
  go_enter Tryz.func49,Tryz.ntmps49
  go_wp2_with fail;refine HC.out.mono ?_;rintro x w' ⟨rfl,hd⟩;have HD:=Hd hd;clear hd;go_wp2_with fail
  go_ret2
  exact⟨rfl,HD.out⟩
theorem two14_bad (hK:Zbp K) (h:SatE K n (fun _=>True) room w0 mb fs nx w o m V) {ka kb:Int} (hbad:(∀ p∈fs,p.1≠ka)\/(∃ F,(ka,F)∈fs)/\∀ p∈fs,p.1≠kb) (hst:m.waits <:+ ws0) (hn:nx<=549755813888) (hr:fs.length*2^n<=room) (k:Nat) (hk:k<3) :
 Calls Tryz.prog 51 #[.pointer (some ⟨mb,0,none⟩),.int .i64 k,.int .i64 ka,.int .i64 kb] w (BadF K n room w0 mb fs nx ws0 (.tuple #[.int .i64 0,.int .i64 8]) o w):=by
 rcases(show k=0\/k=1\/k=2 by omega) with rfl|rfl|rfl
 ·
  have HC:=Hd (ops_imp_bad hK h hbad hst hn hr);clear h hK hbad hst hn hr hk;obtain⟨P,hP⟩:∃ P,P=BadF K n room w0 mb fs nx ws0 (.tuple #[.int .i64 0,.int .i64 8]) o w:=⟨_,rfl⟩;rw[<- hP] at HC ⊢;have HT:Hid (∀ x w',P x w'->∃ a b,x=.returned (.tuple #[.int .i64 a,.int .i64 b])):=Hd (by subst hP;rintro x w' ⟨rfl,_⟩;exact⟨_,_,rfl⟩);clear hP
  go_enter Tryz.func51,Tryz.ntmps51
  go_wp2_with fail;refine HC.out.mono ?_;intro x w' hd;obtain⟨a,b,rfl⟩:=HT.out x w' hd;have HD:=Hd hd;clear hd;go_wp2_with fail;exact HD.out
 ·
  have HC:=Hd (ops_iff_bad hK h hbad hst hn hr);clear h hK hbad hst hn hr hk;obtain⟨P,hP⟩:∃ P,P=BadF K n room w0 mb fs nx ws0 (.tuple #[.int .i64 0,.int .i64 8]) o w:=⟨_,rfl⟩;rw[<- hP] at HC ⊢;have HT:Hid (∀ x w',P x w'->∃ a b,x=.returned (.tuple #[.int .i64 a,.int .i64 b])):=Hd (by subst hP;rintro x w' ⟨rfl,_⟩;exact⟨_,_,rfl⟩);clear hP
  go_enter Tryz.func51,Tryz.ntmps51
  go_wp2_with fail;refine HC.out.mono ?_;intro x w' hd;obtain⟨a,b,rfl⟩:=HT.out x w' hd;have HD:=Hd hd;clear hd;go_wp2_with fail;exact HD.out
 ·
  have HC:=Hd (ops_diff_bad hK h hbad hst hn hr);clear h hK hbad hst hn hr hk;obtain⟨P,hP⟩:∃ P,P=BadF K n room w0 mb fs nx ws0 (.tuple #[.int .i64 0,.int .i64 8]) o w:=⟨_,rfl⟩;rw[<- hP] at HC ⊢;have HT:Hid (∀ x w',P x w'->∃ a b,x=.returned (.tuple #[.int .i64 a,.int .i64 b])):=Hd (by subst hP;rintro x w' ⟨rfl,_⟩;exact⟨_,_,rfl⟩);clear hP
  go_enter Tryz.func51,Tryz.ntmps51
  go_wp2_with fail;refine HC.out.mono ?_;intro x w' hd;obtain⟨a,b,rfl⟩:=HT.out x w' hd;have HD:=Hd hd;clear hd;go_wp2_with fail;exact HD.out
end
open Go.RowKit
section
variable {K:Law} {n:Nat} {Od:List Nat->Prop} {room:Nat} {w0:World} {fs:List (Int×BF)} {nx:Int} {σ:Nat->BF} {HP:ManD->(Nat->BF)->Prop} {Bw:World->Prop} {T:Nat->Prop} {o:Own} {w w1:World} {mb xb:Nat} {m:ManD} {V:Nat->BF} {ws0:List Ev}
def known (fs:List (Int×BF)) (k:Int):Prop:=∃ F,(k,F)∈fs
theorem manIs_known (h:SatE K n Od room w0 mb fs nx w o m V) (k:Int) {b:Bool} (hb:b=true↔known fs k):Calls Tryz.prog 36 #[.pointer (some ⟨mb,0,none⟩),.int .i64 k] w fun x w'=>x=.returned (.bool b)/\w=w':=by
 cases b with
 | true =>
   obtain⟨F,hF⟩:=hb.1 rfl;exact manIs_yes h hF
 | false=>exact manIs_no h (fun p hp e=>by
  have:known fs k:=⟨p.2,by rw[<- e];exact hp⟩;have:=hb.2 this;cases this)
end
open Go.RowKit
section
variable {K:Law} {n room:Nat} {w0 w:World} {mb:Nat} {fs:List (Int×BF)} {nx:Int} {ws0:List Ev} {rs:List (Value×BF)}
theorem StF.left (h:StF K n room w0 mb fs nx ws0 rs w) (q:Nat) (hq:q<=1000000) (hl:fs.length=q+2):Calls Tryz.prog 30 #[.pointer (some ⟨mb,0,none⟩),.int .i64 q] w fun x w'=>x=.returned (.bool true)/\w=w' :=
 h.ask fun o m V hs=>(Zww hs q hq).mono fun e w' ⟨h1,h2⟩=>⟨by rw[h1,decide_eq_true hl],h2⟩
end
open Go.RowKit
section
variable {K:Law} {n room:Nat} {w0 w W w':World} {mb:Nat} {fs fs':List (Int×BF)} {nx nx':Int} {o:Own} {m:ManD} {V:Nat->BF} {ws0:List Ev} {rs:List (Value×BF)} {f:Nat} {args:Array Value}
theorem known_no {k:Int} (h:¬ known fs k):∀ p∈fs,p.1≠k:=fun p hp e=>h ⟨p.2,by rw[<- e];exact hp⟩
theorem known_all {ks:List Int} (h:∀ q,q<ks.length->known fs (at0 ks q)):∃ Fs:List BF,∃ hl:Fs.length=ks.length,∀ i (h:i<ks.length),(ks[i],Fs[i]'(by omega))∈fs:=by
 have h':∀ q:Nat,∃ F:BF,q<ks.length->(at0 ks q,F)∈fs:=fun q=>by
  by_cases hq:q<ks.length
  ·
   obtain⟨F,hF⟩:=h q hq;exact⟨F,fun _=>hF⟩
  ·
   exact⟨fun _=>false,fun e=>absurd e hq⟩
 obtain⟨g,hg⟩:=Classical.axiomOfChoice h';refine⟨(List.range ks.length).map g,by simp,fun i hi=>?_⟩;have:=hg i hi;rw[Zcb hi] at this;simpa using this
theorem SatE.rebase {w0':World} (h:SatE K n (fun _=>True) room w0 mb fs nx w o m V) (hc:ChgX NoB (fun _=>none) o w0' w):SatE K n (fun _=>True) room w0' mb fs nx w o m V :=
 ⟨h.is,h.lt,h.ok,h.vars,h.od,h.room,h.next,h.hs,hc⟩
theorem SatE.zero (h:SatE K n (fun _=>True) room w0 mb fs nx w o m V):SatE K n (fun _=>True) room { w with heap:=#[] } mb fs nx w o m V :=
 h.rebase ⟨rfl,rfl,rfl,Nat.zero_le _,fun k hk=>absurd hk (Nat.not_lt_zero _),fun _ _ e=>(by cases e),fun _ _=>Nat.zero_le _⟩
theorem SatE.back {o':Own} {m':ManD} {V':Nat->BF} {wz:World} (h:SatE K n (fun _=>True) room w0 mb fs nx w o m V) (hc:ChgX NoB o o' w w') (hs:SatE K n (fun _=>True) room wz mb fs' nx' w' o' m' V'):SatE K n (fun _=>True) room w0 mb fs' nx' w' o' m' V' :=
 hs.rebase (h.chg.trans hc fun _ _ e=>e)
theorem StF.known_is (h:StF K n room w0 mb fs nx ws0 rs w) (k:Int) {b:Bool} (hb:b=true↔known fs k):Calls Tryz.prog 36 #[.pointer (some ⟨mb,0,none⟩),.int .i64 k] w fun x w'=>x=.returned (.bool b)/\w=w' :=
 h.ask fun o m V hs=>manIs_known hs k hb
theorem StF.bad {v:Value} (h:StF K n room w0 mb fs nx ws0 rs w) (hc:∀ o m V,m.waits <:+ ws0->SatE K n (fun _=>True) room w0 mb fs nx w o m V->Calls Tryz.prog f args w (BadF K n room w0 mb fs nx ws0 v o w)):Calls Tryz.prog f args w fun x w'=>x=.returned v/\StF K n room w0 mb fs nx ws0 rs w' :=
 h.go hc
theorem StF.join_ok (hK:Zbp K) (h:StF K n room w0 mb fs nx ws0 rs w) {j:Nat} (hj:j<3) {c:Nat} {a:Option Addr} {ks:List Int} {Fs:List BF} (hz:Za4 w a ks) (ha:∀ x,a=some x->x.block<w0.heap.size) (hlen:Fs.length=ks.length) (hmem:∀ i (h:i<ks.length),(ks[i],Fs[i]'(by omega))∈fs) (hn:nx<=549755813888) (hr:fs.length*2^n+ks.length*(2^n-1)<=room) :
 Calls Tryz.prog 49 #[.pointer (some ⟨mb,0,none⟩),.int .i64 j,.slice a ks.length c] w fun x w'=>x=.returned (.tuple #[.int .i64 nx,.int .i64 0])/\StF K n room w0 mb (fs++[(nx,joinF14 j Fs)]) (nx+1) ws0 rs w' :=
 h.go fun o m V hw hs=>(join14_any hK hs.zero ⟨hz,fun x hx=>⟨Nat.lt_of_lt_of_le (ha x hx) hs.chg.size,Nat.zero_le _,hs.none0 (ha x hx)⟩,hlen,hmem⟩ hw hn hr j hj).mono fun x w' ⟨h1,o',m',V',hc,h2,h3⟩=>⟨h1,o',m',V',hc,h2,hs.back hc h3⟩
theorem StF.join_no (hK:Zbp K) (h:StF K n room w0 mb fs nx ws0 rs w) {j:Nat} (hj:j<3) {c:Nat} {a:Option Addr} {ks:List Int} (hz:Za4 w a ks) (ha:∀ x,a=some x->x.block<w0.heap.size) (hbad:∃ q,q<ks.length/\¬ known fs (at0 ks q)) (hn:nx<=549755813888) (hr:fs.length*2^n+ks.length*(2^n-1)<=room) :
 Calls Tryz.prog 49 #[.pointer (some ⟨mb,0,none⟩),.int .i64 j,.slice a ks.length c] w fun x w'=>x=.returned (.tuple #[.int .i64 0,.int .i64 8])/\StF K n room w0 mb fs nx ws0 rs w' :=
 h.bad fun o m V hw hs=>(join14_bad hK hs.zero hz (fun x hx=>⟨Nat.lt_of_lt_of_le (ha x hx) hs.chg.size,Nat.zero_le _,hs.none0 (ha x hx)⟩) (by
  obtain⟨q,hq,hb⟩:=hbad;rw[Zcb hq] at hb;exact⟨q,hq,known_no hb⟩) hw hn hr j hj).mono fun x w' ⟨h1,o',m',V',hc,h2,h3⟩=>⟨h1,o',m',V',hc,h2,hs.back hc h3⟩
theorem bad_pair {ka kb:Int} (h:¬ known fs ka\/¬ known fs kb):(∀ p∈fs,p.1≠ka)\/(∃ F,(ka,F)∈fs)/\∀ p∈fs,p.1≠kb:=by
 by_cases c:known fs ka
 ·
  exact .inr ⟨c,known_no (h.resolve_left fun e=>e c)⟩
 ·
  exact .inl (known_no c)
theorem StF.two_ok (hK:Zbp K) (h:StF K n room w0 mb fs nx ws0 rs w) {j:Nat} (hj:j<3) {ka kb:Int} (h1:known fs ka) (h2:known fs kb) (hn:nx<=549755813888) (hr:fs.length*2^n+(2^n-1)<=room) :
 ∃ F,Calls Tryz.prog 51 #[.pointer (some ⟨mb,0,none⟩),.int .i64 j,.int .i64 ka,.int .i64 kb] w fun x w'=>x=.returned (.tuple #[.int .i64 nx,.int .i64 0])/\StF K n room w0 mb (fs++[(nx,F)]) (nx+1) ws0 rs w':=by
 obtain⟨F1,h1⟩:=h1;obtain⟨F2,h2⟩:=h2;exact⟨_,h.go fun o m V hw hs=>two14_any hK hs h1 h2 hw hn hr j hj⟩
theorem StF.two_no (hK:Zbp K) (h:StF K n room w0 mb fs nx ws0 rs w) {j:Nat} (hj:j<3) {ka kb:Int} (hb:¬ known fs ka\/¬ known fs kb) (hn:nx<=549755813888) (hr:fs.length*2^n<=room) :
 Calls Tryz.prog 51 #[.pointer (some ⟨mb,0,none⟩),.int .i64 j,.int .i64 ka,.int .i64 kb] w fun x w'=>x=.returned (.tuple #[.int .i64 0,.int .i64 8])/\StF K n room w0 mb fs nx ws0 rs w' :=
 h.bad fun o m V hw hs=>two14_bad hK hs (bad_pair hb) hw hn hr j hj
theorem StF.within_ok (hK:Zbp K) (h:StF K n room w0 mb fs nx ws0 rs w) {ka kb:Int} (h1:known fs ka) (h2:known fs kb) (hn:nx<=549755813888) (hr:fs.length*2^n+(2^n-1)<=room) :
 ∃ b:Bool,Calls Tryz.prog 52 #[.pointer (some ⟨mb,0,none⟩),.int .i64 ka,.int .i64 kb] w fun x w'=>x=.returned (.tuple #[.bool b,.int .i64 0])/\StF K n room w0 mb fs nx ws0 rs w':=by
 obtain⟨F1,h1⟩:=h1;obtain⟨F2,h2⟩:=h2;obtain⟨b,hb⟩:=bool_iff (impF F1 F2=Zd7 0);exact⟨b,h.go fun o m V hw hs=>Zsy hK hs h1 h2 hb hw hn hr⟩
theorem StF.meets_ok (hK:Zbp K) (h:StF K n room w0 mb fs nx ws0 rs w) {ka kb:Int} (h1:known fs ka) (h2:known fs kb) (hn:nx<=549755813888) (hr:fs.length*2^n+(2^n-1)<=room) :
 ∃ b:Bool,Calls Tryz.prog 53 #[.pointer (some ⟨mb,0,none⟩),.int .i64 ka,.int .i64 kb] w fun x w'=>x=.returned (.tuple #[.bool b,.int .i64 0])/\StF K n room w0 mb fs nx ws0 rs w':=by
 obtain⟨F1,h1⟩:=h1;obtain⟨F2,h2⟩:=h2;obtain⟨b,hb⟩:=bool_iff (andF F1 F2=Zd7 1);exact⟨!b,h.go fun o m V hw hs=>meets_any hK hs h1 h2 hb hw hn hr⟩
theorem StF.within_no (h:StF K n room w0 mb fs nx ws0 rs w) {ka kb:Int} (hb:¬ known fs ka\/¬ known fs kb) :
 Calls Tryz.prog 52 #[.pointer (some ⟨mb,0,none⟩),.int .i64 ka,.int .i64 kb] w fun x w'=>x=.returned (.tuple #[.bool false,.int .i64 8])/\StF K n room w0 mb fs nx ws0 rs w' :=
 h.bad fun o m V hw hs=>within_bad hs (bad_pair hb) hw
theorem StF.meets_no (h:StF K n room w0 mb fs nx ws0 rs w) {ka kb:Int} (hb:¬ known fs ka\/¬ known fs kb) :
 Calls Tryz.prog 53 #[.pointer (some ⟨mb,0,none⟩),.int .i64 ka,.int .i64 kb] w fun x w'=>x=.returned (.tuple #[.bool false,.int .i64 8])/\StF K n room w0 mb fs nx ws0 rs w' :=
 h.bad fun o m V hw hs=>meets_bad hs (bad_pair hb) hw
theorem StF.drop_last (hK:Zbp K) {k:Int} {F:BF} (h:StF K n room w0 mb (fs++[(k,F)]) nx ws0 rs w) (hb:B2 fs) (hn:nx<549755813888) :
 Calls Tryz.prog 50 #[.pointer (some ⟨mb,0,none⟩),.slice (some ⟨w.heap.size,0,none⟩) 1 1] (w.alloc (.cells #[.int .i64 k] 3)) fun x w'=>x=.returned (.int .i64 0)/\StF K n room w0 mb fs nx ws0 rs w':=by
 obtain⟨o,m,V,h1,h2,h3⟩:=h;refine(Zl8 hK (fs:=fs) (hs:=[(k,F)]) (r:=[]) (by have:=h2.goes0 h1;simpa using this) hb hn (by simp) (T:=w.alloc (.cells #[.int .i64 k] 3)) rfl).mono ?_;rintro x w' ⟨rfl,o',m',V',q2,q3,q4⟩;rw[List.append_nil] at q4;exact⟨rfl,o',m',V',q3,q4,fun p hp=>(h3 p hp).chg q2⟩
end
open Go.RowKit
theorem of_nil (w:World) (op v:Int) (a:Option Addr) (nk c:Nat) :
 Calls Tryz.prog 54 #[.pointer none,.agg #[.int .i64 op,.int .i64 v,.slice a nk c]] w fun y w'=>y=.returned (.tuple #[.int .i64 0,.int .i64 5])/\Below w.heap.size w w':=by
 obtain⟨w1,hw1⟩:∃ w1,w1=w.alloc (.cells #[.int .i64 op,.int .i64 v,.slice a nk c] 86):=⟨_,rfl⟩;have HW1:Hid (_=w1):=Hd hw1.symm;have HB1:Hid (Below w.heap.size w w1):=by rw[hw1];exact Hd (Zad _ _)
 clear hw1
 go_enter Tryz.func54,Tryz.ntmps54
 go_upto_region 1 with fail;rw[HW1.out];go_wp2_with fail
 go_ret2
 exact⟨rfl,HB1.out⟩
end Go.Proofs.YtmofaapnkidioaaGreat

namespace Go.Proofs.YtmofaapnkidioaaGreat
open Go.RowKit Go.Deep Go.ChangeShapes Go.WideShapes
theorem wfI {x:Int} (h:(Lit.int .i64 x).wf=true):okI x:=by
 unfold okI;simp only[Lit.wf,IntKind.min,IntKind.max,IntKind.signed,IntKind.bits,Bool.and_eq_true,decide_eq_true_eq,if_true] at h;omega
theorem Zl2 {b off:Nat} (k:Nat):(⟨b,off,none⟩:Addr).add k=⟨b,off+k,none⟩:=by unfold Addr.add;split<;>simp_all
theorem add0 (a:Addr):a.add 0=a:=by simp[Addr.add]
theorem Zf6 {w:World} {a:Addr} {v:Value} (h:w.cell? a=some v):a.spot=none:=by
 obtain⟨b,off,spot⟩:=a;cases spot with
 | none=>rfl
 | some s=>simp[World.cell?] at h;split at h<;>simp at h
theorem Zto {n:Nat} {p:Nat->Ev->Prop} (h:∀ i,i<n->∃ x,p i x):∃ f:Nat->Ev,∀ i,i<n->p i (f i):=by
 classical
 refine⟨fun i=>if hi:i<n then Classical.choose (h i hi) else ⟨0,0,0⟩,fun i hi=>?_⟩;simp only[dif_pos hi];exact Classical.choose_spec (h i hi)
theorem Zmo {H:Type} {enc:TypeId×Value->H} {P:Program} {w:World} {base:Nat} {spare:Nat->Bool} {held:Bool} {t e:TypeId} {fuel:Nat} {cs:List Value} {x:DataW H×List MemPlace} (ht:P.underlying t=some (.slice e)) (h:DataW.trod enc P w base spare held fuel t cs=some x) :
 cs=[.slice none 0 0]\/∃ (a:Addr) (len cap n:Nat),cs=[.slice (some a) len cap]/\len<=cap/\cap<=maxLen/\fuel=n+1/\∀ i,i<len->∃ cs' y,w.cells? base (a.add (i*P.cellsOf e)) (P.cellsOf e)=some cs'/\DataW.trod enc P w base spare held n e cs'=some y:=by
 rcases DataW.trod_slice ht h with ⟨h0,_⟩|⟨a,len,cap,elems,rest,n,hn,e1,_,_,hl,hm,hlen,hel,_⟩
 ·
  exact .inl h0
 ·
  refine .inr ⟨a,len,cap,n,e1,hl,hm,hn,fun i hi=>?_⟩;have:=hel i hi;rw[List.getElem?_eq_getElem (by omega)] at this;obtain⟨cs',h1,h2⟩:=Option.bind_eq_some_iff.1 this;exact⟨cs',_,h1,h2⟩
theorem open_expr {H:Type} {enc:TypeId×Value->H} {w:World} {base:Nat} {spare:Nat->Bool} {held:Bool}:∀ (fuel:Nat) {cs:List Value} {x:DataW H×List MemPlace},
 DataW.trod enc Tryz.prog w base spare held fuel 86 cs=some x->∃ e x0 x1 x2,cs=[x0,x1,x2]/\Zaq w e (.agg #[x0,x1,x2]):=by
 intro fuel
 induction fuel using Nat.strongRecOn with
 | _ fuel IH =>
   intro cs x h;obtain⟨xs,k,hk,hxy,hcl,hxl,hf⟩:=DataW.trod_struct Tryz.underlying86 h;have c1:Tryz.prog.cellsOf 3=1:=by kernel_rfl
   have c2:Tryz.prog.cellsOf 23=1:=by kernel_rfl
   have c3:Tryz.prog.cellsOf 86=3:=by kernel_rfl
   rw[c3] at hcl
   match xs,hxl,cs,hcl with
   | [y0,y1,y2],_,[v0,v1,v2],_ =>
     have g0:=hf 0 _ rfl;have g1:=hf 1 _ rfl;have g2:=hf 2 _ rfl;simp[c1,c2] at g0 g1 g2;obtain⟨n0,e0,_,w0⟩:=DataW.trod_int Tryz.underlying3 g0;obtain⟨n1,e1,_,w1⟩:=DataW.trod_int Tryz.underlying3 g1;simp only[List.cons.injEq,and_true] at e0 e1;subst e0 e1;rcases Zmo Tryz.underlying23 g2 with e2|⟨a,len,cap,n,e2,hl,hm,hkn,hx⟩
     ·
      simp only[List.cons.injEq,and_true] at e2;subst e2;exact⟨.mk n0 n1 0 (fun _=>.nil),_,_,_,rfl,by unfold Zaq;exact⟨none,0,rfl,wfI w0,wfI w1,by omega,fun k hk=>by omega⟩⟩
     ·
      simp only[List.cons.injEq,and_true] at e2;subst e2;have each:∀ i,i<len->∃ q:ExT,∃ x0 x1 x2,w.cell? (a.add (i*3))=some x0/\w.cell? ((a.add (i*3)).add 1)=some x1/\w.cell? ((a.add (i*3)).add 2)=some x2/\Zaq w q (.agg #[x0,x1,x2]):=by
       intro i hi;obtain⟨cs',y,h1,h2⟩:=hx i hi;rw[c3] at h1;obtain⟨_,hlen,hcell⟩:=World.cells?_some h1;obtain⟨e,x0,x1,x2,rfl,he⟩:=IH n (by omega) h2;have f0:=hcell 0 (by omega);have f1:=hcell 1 (by omega);have f2:=hcell 2 (by omega);rw[add0] at f0;exact⟨e,x0,x1,x2,by simpa using f0,by simpa using f1,by simpa using f2,he⟩
      obtain⟨q,hq⟩:=choose_lt each;refine⟨.mk n0 n1 len q,_,_,_,rfl,?_⟩;unfold Zaq;refine⟨some a,cap,rfl,wfI w0,wfI w1,by unfold maxLen at hm;omega,fun i hi=>?_⟩;obtain⟨x0,x1,x2,f0,f1,f2,he⟩:=hq i hi;have hsp:a.spot=none:=by
       obtain⟨_,_,_,q0,_⟩:=hq 0 (by omega);have:=Zf6 q0;simpa [Addr.add] using this
      obtain⟨b,off,spot⟩:=a;dsimp only at hsp;subst hsp;simp only[Zl2] at f0 f1 f2;exact⟨b,off,x0,x1,x2,rfl,f0,f1,f2,he⟩
theorem Zsk {H:Type} {enc:TypeId×Value->H} {w:World} {base:Nat} {spare:Nat->Bool} {held:Bool} {fuel:Nat} {cs:List Value} {x:DataW H×List MemPlace}
 (h:DataW.trod enc Tryz.prog w base spare held fuel 23 cs=some x):∃ a l cap,cs=[.slice a l.length cap]/\Zjt w a l:=by
 have c3:Tryz.prog.cellsOf 86=3:=by kernel_rfl
 rcases Zmo Tryz.underlying23 h with e2|⟨a,len,cap,n,e2,hl,hm,hkn,hx⟩
 ·
  exact⟨none,[],0,e2,⟨by simp,fun k hk=>by simp at hk⟩⟩
 ·
  subst e2;have each:∀ i,i<len->∃ q:ExT,∃ x0 x1 x2,w.cell? (a.add (i*3))=some x0/\w.cell? ((a.add (i*3)).add 1)=some x1/\w.cell? ((a.add (i*3)).add 2)=some x2/\Zaq w q (.agg #[x0,x1,x2]):=by
   intro i hi;obtain⟨cs',y,h1,h2⟩:=hx i hi;rw[c3] at h1;obtain⟨_,hlen,hcell⟩:=World.cells?_some h1;obtain⟨e,x0,x1,x2,rfl,he⟩:=open_expr n h2;have f0:=hcell 0 (by omega);have f1:=hcell 1 (by omega);have f2:=hcell 2 (by omega);rw[add0] at f0;exact⟨e,x0,x1,x2,by simpa using f0,by simpa using f1,by simpa using f2,he⟩
  obtain⟨q,hq⟩:=choose_lt each;refine⟨some a,(List.range len).map q,cap,by simp,⟨by unfold maxLen at hm;simp;omega,fun i hi=>?_⟩⟩;have hi':i<len:=by simpa using hi
  obtain⟨x0,x1,x2,f0,f1,f2,he⟩:=hq i hi';have hsp:a.spot=none:=by
   obtain⟨_,_,_,q0,_⟩:=hq 0 (by omega);have:=Zf6 q0;simpa [Addr.add] using this
  obtain⟨b,off,spot⟩:=a;dsimp only at hsp;subst hsp;simp only[Zl2] at f0 f1 f2;exact⟨b,off,x0,x1,x2,rfl,f0,f1,f2,by simpa using he⟩
theorem open_evs {H:Type} {enc:TypeId×Value->H} {w:World} {base:Nat} {spare:Nat->Bool} {held:Bool} {fuel:Nat} {cs:List Value} {x:DataW H×List MemPlace}
 (h:DataW.trod enc Tryz.prog w base spare held fuel 24 cs=some x):∃ a l cap,cs=[.slice a l.length cap]/\EvsAt w a l/\(∀ ev∈l,okI ev.after/\okI ev.kind/\okI ev.level)/\(a=none->cap=0)/\l.length<=cap/\cap<=maxLen:=by
 have c1:Tryz.prog.cellsOf 3=1:=by kernel_rfl
 have c3:Tryz.prog.cellsOf 103=3:=by kernel_rfl
 rcases Zmo Tryz.underlying24 h with e2|⟨a,len,cap,n,e2,hl,hm,hkn,hx⟩
 ·
  exact⟨none,[],0,e2,⟨by simp,fun k hk=>by simp at hk⟩,by simp,fun _=>rfl,by simp,by simp⟩
 ·
  subst e2;have each:∀ i,i<len->∃ q:Ev,w.cell? (a.add (i*3))=some (.int .i64 q.after)/\w.cell? ((a.add (i*3)).add 1)=some (.int .i64 q.kind)/\w.cell? ((a.add (i*3)).add 2)=some (.int .i64 q.level)/\okI q.after/\okI q.kind/\okI q.level:=by
   intro i hi;obtain⟨cs',y,h1,h2⟩:=hx i hi;rw[c3] at h1;obtain⟨_,hlen,hcell⟩:=World.cells?_some h1;obtain⟨xs,k,hk,hxy,_,hxl,hf⟩:=DataW.trod_struct Tryz.underlying103 h2
   match xs,hxl,cs',hlen with
   | [y0,y1,y2],_,[v0,v1,v2],_ =>
     have g0:=hf 0 _ rfl;have g1:=hf 1 _ rfl;have g2:=hf 2 _ rfl;simp[c1] at g0 g1 g2;obtain⟨n0,e0,_,w0⟩:=DataW.trod_int Tryz.underlying3 g0;obtain⟨n1,e1,_,w1⟩:=DataW.trod_int Tryz.underlying3 g1;obtain⟨n2,e2,_,w2⟩:=DataW.trod_int Tryz.underlying3 g2;simp only[List.cons.injEq,and_true] at e0 e1 e2;subst e0 e1 e2;have f0:=hcell 0 (by omega);have f1:=hcell 1 (by omega);have f2:=hcell 2 (by omega);rw[add0] at f0;exact⟨⟨n0,n1,n2⟩,by simpa using f0,by simpa using f1,by simpa using f2,wfI w0,wfI w1,wfI w2⟩
  obtain⟨q,hq⟩:=Zto each;refine⟨some a,(List.range len).map q,cap,by simp,⟨by unfold maxLen at hm;simp;omega,fun i hi=>?_⟩,?_,by simp,by simpa using hl,hm⟩
  ·
   have hi':i<len:=by simpa using hi
   obtain⟨f0,f1,f2,_⟩:=hq i hi';have hsp:a.spot=none:=by
    obtain⟨q0,_⟩:=hq 0 (by omega);have:=Zf6 q0;simpa [Addr.add] using this
   obtain⟨b,off,spot⟩:=a;dsimp only at hsp;subst hsp;simp only[Zl2] at f0 f1 f2;exact⟨b,off,rfl,by simpa using f0,by simpa using f1,by simpa using f2⟩
  ·
   intro ev hev;obtain⟨i,hi,rfl⟩:=List.mem_map.1 hev;exact(hq i (by simpa using hi)).2.2.2
theorem open_ask {H:Type} {enc:TypeId×Value->H} {w:World} {base:Nat} {held:Bool} {fuel:Nat} {v:Value} {cs:Array Value} {x:DataW H×List MemPlace} (hv:v=.agg cs)
 (h:DataW.trod enc Tryz.prog w base (fun _=>true) held fuel 26 v.cells.toList=some x):∃ q ao ae ap co ce cp,v=askV q ao ae ap co ce cp/\AskAt w q ao ae ap/\(∀ ev∈q.plan,okI ev.after/\okI ev.kind/\okI ev.level)/\(ao=none->co=0)/\(ap=none->cp=0)/\q.plan.length<=cp/\cp<=maxLen:=by
 subst hv;obtain⟨xs,k,hk,hxy,hcl,hxl,hf⟩:=DataW.trod_struct Tryz.underlying26 h;have c1:Tryz.prog.cellsOf 3=1:=by kernel_rfl
 have c2:Tryz.prog.cellsOf 22=1:=by kernel_rfl
 have c4:Tryz.prog.cellsOf 23=1:=by kernel_rfl
 have c5:Tryz.prog.cellsOf 24=1:=by kernel_rfl
 have c3:Tryz.prog.cellsOf 26=4:=by kernel_rfl
 rw[c3] at hcl;obtain⟨cl⟩:=cs;simp only[Value.cells] at hcl hf
 match xs,hxl,cl,hcl with
 | [y0,y1,y2,y3],_,[v0,v1,v2,v3],_ =>
   have g0:=hf 0 _ rfl;have g1:=hf 1 _ rfl;have g2:=hf 2 _ rfl;have g3:=hf 3 _ rfl;simp[c1,c2,c4,c5] at g0 g1 g2 g3;obtain⟨n0,e0,_,w0⟩:=DataW.trod_int Tryz.underlying3 g0;simp only[List.cons.injEq,and_true] at e0;subst e0;obtain⟨ao,zs,co,e1,hio,hno⟩:∃ a zs c,v1=.slice a zs.length c/\Za4 w a zs/\(a=none->c=0):=by
    rcases open_ints Tryz.underlying22 Tryz.underlying3 (by kernel_rfl) g1 with ⟨hcs,_⟩|⟨x,l,c,zs,hcs,_,hl,hm,hz,_,hcell,hwz⟩
    ·
     simp at hcs;subst hcs;obtain⟨a,c,e,h1,h2⟩:=sliceIs_of_row (w:=w) (a:=none) (len:=0) (cap:=0) (.inl ⟨rfl,rfl,rfl,rfl⟩);exact⟨a,_,c,e,h1,h2⟩
    ·
     simp at hcs;subst hcs;obtain⟨a,c,e,h1,h2⟩:=sliceIs_of_row (w:=w) (.inr ⟨_,rfl,hl,hm,by simpa using hz,hcell,hwz⟩);exact⟨a,_,c,e,h1,h2⟩
   obtain⟨ae,es,ce,e2,hes⟩:=Zsk g2;obtain⟨ap,evs,cp,e3,hev,hok,hnp,hlp,hmp⟩:=open_evs g3;simp only[List.cons.injEq,and_true] at e2 e3;subst e1 e2 e3;exact⟨⟨n0,zs,es,evs⟩,ao,ae,ap,co,ce,cp,rfl,⟨wfI w0,hio,hes,hev⟩,hok,hno,hnp,hlp,hmp⟩
end Go.Proofs.YtmofaapnkidioaaGreat

namespace Go.Proofs.YtmofaapnkidioaaGreat
open Go.RowKit Go.Deep Go.ChangeShapes Go.WideShapes
theorem u8_nat {x:Int} (h:(Lit.int .u8 x).wf=true):∃ k:Nat,x=(k:Int)/\k<256:=by
 simp only[Lit.wf,IntKind.min,IntKind.max,IntKind.signed,IntKind.bits,Bool.and_eq_true,decide_eq_true_eq] at h;simp at h;exact⟨x.toNat,by omega,by omega⟩

theorem open_u8 {H:Type} {enc:TypeId×Value->H} {w:World} {base b0:Nat} {spare:Nat->Bool} {held:Bool} {r:Reach} {v:Value} {d:DataW H} {ps:List MemPlace} (hval:Value.okWide Tryz.prog w r b0 5 v) (hd:DataW.Trod enc Tryz.prog w base spare held 5 v d ps) :
 ∃ k:Nat,k<256/\v=.int .u8 k/\d=.lit (.int .u8 k)/\ps=[]/\(Lit.int .u8 (k:Int)).wf=true:=by
 obtain⟨n,rfl,rfl,rfl,hw⟩:=open_int Tryz.underlying5 hval hd;obtain⟨k,rfl,hk⟩:=u8_nat hw;exact⟨k,hk,rfl,rfl,rfl,hw⟩
end Go.Proofs.YtmofaapnkidioaaGreat
