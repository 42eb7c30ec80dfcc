/- Several texts in one file: contracts of the program's functions and what follows from them. -/
import Derived.Test.YteohpagjkaaboaaGreatG7
import Derived.Deep.WholeRow
import Derived.Deep.Slices
import Derived.ChangeArms
import Derived.WideShapes
import Derived.ChangeSlices
set_option linter.unusedSimpArgs false
set_option linter.unusedVariables false
set_option linter.unusedSectionVars false
set_option linter.unnecessarySimpa false
set_option maxRecDepth 100000
set_option maxHeartbeats 8000000
namespace Go.Proofs.YteohpagjkaaboaaGreat
open Go.Proofs.Tryz
open Go.RowKit
theorem DepF.const {n:Nat}(b:Bool):DepF n fun _=>b:=fun _ _ _=>rfl
theorem DepF.ite {n:Nat}{F G H:BF}(h1:DepF n F)(h2:DepF n G)(h3:DepF n H):DepF n (Zcw F G H):=fun ρ ρ' hr=>by
 show iteB (F ρ) (G ρ) (H ρ)=iteB (F ρ') (G ρ') (H ρ')
 rw[h1 ρ ρ' hr,h2 ρ ρ' hr,h3 ρ ρ' hr]
theorem DepF.not {n:Nat}{F:BF}(h:DepF n F):DepF n (notF F):=fun ρ ρ' hr=>by
 show (!F ρ)=(!F ρ')
 rw[h ρ ρ' hr]
theorem Zzb (F G:BF):impF F G=Zd5 0↔Zwc F G=fun _=>false:=by
 constructor
 .
  intro h;funext ρ;have:=congrFun h ρ
  show iteB (F ρ) (!G ρ) false=false
  have h2:iteB (F ρ) (G ρ) true=true:=this;revert h2;cases F ρ<;>cases G ρ<;>simp[iteB]
 .
  intro h;funext ρ;have h2:iteB (F ρ) (!G ρ) false=false:=congrFun h ρ
  show iteB (F ρ) (G ρ) true=true
  revert h2;cases F ρ<;>cases G ρ<;>simp[iteB]
theorem Zxe {n:Nat}{F:BF}(h:DepF n F):(∀ q,q<2^n->(tabB n F).getD q false=false)↔F=fun _=>false:=by
 constructor
 . intro hq;refine Zon h (DepF.const false) ?_;rw[<- Zen];refine(Zom (by simp) fun i hi=>?_).symm;have:=hq i hi;rw[Zdc hi] at this;rw[this];simp[List.getD,hi]
 . rintro rfl q hq;rw[Zdc hq]
theorem Zxv (bs:List Bool)(a:Option Addr)(c:Nat)(w:World)(h:Zbp w a bs) :
 Calls prog 47 #[.slice a bs.length c] w fun x w'=>(∃ b:Bool,x=.returned (.bool b)/\(b=true↔∀ q,q<bs.length->bs.getD q false=false))/\Below w.heap.size w w':=by
 have H1:=Hd h;have hl:=h.len;obtain⟨L,hL⟩:∃ L,L=bs.length:=⟨_,rfl⟩;have HL:=Hd hL;rw[<- hL] at hl ⊢;obtain⟨P,hP⟩:∃ P:Ending->World->Prop,P=fun x w'=>(∃ b:Bool,x=.returned (.bool b)/\(b=true↔∀ q,q<L->bs.getD q false=false))/\Below w.heap.size w w':=⟨_,rfl⟩
 have HP:=Hd hP;rw[<- hP];clear h hL hP
 go_enter func47,ntmps47
 go_wp2_with fail
 go_loopw [2,3] (fun s2 s3 wr=>∃ j:Nat,j<=L/\s3=.int .i64 j/\Hid (Below w.heap.size w wr)/\Hid (∀ q,q<j->bs.getD q false=false)) (fun _ s3 _=>L-(intOf s3).toNat)
 case atStart=>exact⟨0,Nat.zero_le _,rfl,Hd (Below.refl _ _),Hd fun q hq=>by omega⟩
 case round =>
  obtain⟨j,hj,rfl,HB,HQ⟩:=hrel
  by_cases g0:j<L
  .
   obtain⟨b1,of1,rfl,c1⟩:=(H1.out.below HB.out).cells j (by rw[<- HL.out];exact g0);have g1:(j:Int)<(L:Int):=by omega
   obtain⟨y,hy⟩:∃ y,y=bs.getD j false:=⟨_,rfl⟩;rw[<- hy] at c1;have HY:=Hd hy;clear hy;cases y with
   | false =>
     have g2:Hid (∀ q,q<j+1->bs.getD q false=false):=Hd fun q hq=>by
      rcases Nat.lt_or_ge q j with h|h
      . exact HQ.out q h
      .
       obtain rfl:q=j:=by omega
       exact HY.out.symm
     go_wp2_with fail;go_roundw
     case rel=>exact⟨j+1,by omega,by go_num,HB,g2⟩
     case measure=>simp[intOf];omega
   | true =>
     have HF:Hid (P (.returned (.bool false)) wr):=Hd (by rw[HP.out];exact⟨⟨false,rfl,by simp,fun h=>by have:=h j g0;rw[<- HY.out] at this;exact this.symm⟩,HB.out⟩);go_wp2_with fail;exact HF.out
  .
   obtain rfl:j=L:=by omega
   have HF:Hid (P (.returned (.bool true)) wr):=Hd (by rw[HP.out];exact⟨⟨true,rfl,fun _=>HQ.out,fun _=>rfl⟩,HB.out⟩);have g1:¬ (j:Int)<(j:Int):=by omega
   go_wp2_with fail;exact HF.out
section
variable {n:Nat}{F G:BF}{x y:Value}{w:World}
theorem Zn6 (h:DepF n F)(ht:TabA n w x F):Calls prog 47 #[x] w fun e w'=>(∃ b:Bool,e=.returned (.bool b)/\(b=true↔F=fun _=>false))/\Below w.heap.size w w':=by
 obtain⟨a,c,rfl,h1⟩:=ht;have:=Zxv _ a c w h1;rw[Zar] at this;refine this.mono ?_;rintro e w' ⟨⟨b,rfl,h2⟩,h3⟩;exact⟨⟨b,rfl,h2.trans (Zxe h)⟩,h3⟩
theorem Zcn (hn:n<=16)(h1:TabA n w x F)(h2:TabA n w y G)(d1:DepF n F)(d2:DepF n G){b:Bool}(hb:b=true↔impF F G=Zd5 0):Calls prog 12 #[x,y] w fun e w'=>e=.returned (.bool b)/\Below w.heap.size w w':=by
 have HT:=Hd (Zxt hn 2 (by omega) h1 h2);have HD:Hid (DepF n (Zwc F G)):=Hd (d1.ite d2.not (DepF.const false));rw[Zzb] at hb;have HB:=Hd hb;clear h1 h2 d1 d2 hb
 go_enter func12,ntmps12
 go_wp2_with fail;refine HT.out.mono ?_;rintro e w1 ⟨z,rfl,hz,g1⟩;have HN:=Hd (Zn6 HD.out (TabA.is hz));have g2:=Hd g1;clear hz g1 HT;go_wp2_with fail;refine HN.out.mono ?_;rintro e w2 ⟨⟨b',rfl,h3⟩,g0⟩;have HE:Hid (Ending.returned (.bool b')=.returned (.bool b)):=Hd (by rw[Bool.eq_iff_iff.2 (h3.trans HB.out.symm)]);have HB2:=Hd (g2.out.trans (g0.mono g2.out.size));clear h3 g0 HN;go_wp2_with fail;go_ret;exact⟨HE.out,HB2.out⟩
structure Zmi (n:Nat)(w:World)(a:Option Addr)(Fs:List BF):Prop where
 len:Fs.length<=1000
 cells:∀ i (h:i<Fs.length),∃ b off v,a=some ⟨b,off,none⟩/\w.cell? ⟨b,off+i,none⟩=some v/\TabA n w v Fs[i]
theorem Zmi.below {a:Option Addr}{Fs:List BF}{w':World}(h:Zmi n w a Fs)(hb:Below w.heap.size w w'):Zmi n w' a Fs :=
 ⟨h.len,fun i hi=>by
  obtain⟨b,off,v,rfl,h1,h2⟩:=h.cells i hi;exact⟨b,off,v,rfl,(hb.cell (p:=⟨b,off+i,none⟩) (Zab h1)).trans h1,h2.below hb⟩⟩
end
open Go.RowKit
theorem Ybu {k:Nat}(hk:k<256):IntKind.i64.wrap ((k:Nat):Int)=(k:Int):=by
 simp[IntKind.wrap,IntKind.bits];omega
theorem Zzx {n:Nat}{fs:List (Int×BF)}{w:World}(hn:n<=16)(h0:(0,fun _=>false)∈fs)(h1:(1,fun _=>true)∈fs){vl vx:Value}{hs:List (Int×BF)}{P:Nat->Prop}(hr:LawR P n fs w vl vx hs)(k:Nat)(hk:k<256) :
 Calls prog 7 #[vl,vx,.int .i64 n,.int .u8 k] w fun x w'=>∃ a F v,x=.returned (.tuple #[.int .i64 a,v])/\(a,F)∈fs/\Zbu w' v (tabB n F)/\(∀ g,v.ownBlock=some g->P g\/w.heap.size<=g/\∃ cur,w'.heap[g]?=some (.cells cur 4 (0,0)))/\Below w.heap.size w w':=by
 obtain⟨al,cl,rfl,hl⟩:=hr.l;obtain⟨ax,cx,rfl,hx⟩:=hr.x;have g6:=hr.small;have g5:=Hd hr.sub;obtain⟨L,hL⟩:∃ L,L=hs.length:=⟨_,rfl⟩;have gf:=Hd hL;rw[<- hL] at g6 ⊢;clear hr;obtain⟨i,hi,hI⟩:∃ i,i<L+2/\Int.tmod (k:Int) ((L:Int)+2)=((i:Nat):Int):=by
  refine⟨(Int.tmod (k:Int) ((L:Int)+2)).toNat,?_,?_⟩
  . have:=Int.tmod_lt_of_pos (k:Int) (show (0:Int)<(L:Int)+2 by omega);have:=Int.tmod_nonneg ((L:Int)+2) (show (0:Int)<=(k:Int) by omega);omega
  . have:=Int.tmod_nonneg ((L:Int)+2) (show (0:Int)<=(k:Int) by omega);omega
 have ge:=Ybu hk;have gb:(((L:Int)+2) == 0)=false:=by simp;omega
 by_cases hz:L<=i
 .
  have g7:(i:Int)>=(L:Int):=by omega
  obtain⟨b,hb⟩:∃ b:Bool,b=decide ((i:Int)>(L:Int)):=⟨_,rfl⟩;have g3:(((i:Int)-(L:Int)),fun _=>b)∈fs:=by
   rcases(show i=L\/i=L+1 by omega) with rfl|rfl
   . rw[hb,decide_eq_false (by omega),Int.sub_self];exact h0
   . rw[hb,decide_eq_true (by omega),show ((L+1:Nat):Int)-(L:Int)=1 by omega];exact h1
  have HM:=Hd g3;have HC:=Hd (Zqc b n hn w);have hp:2^n<=65536:=Nat.pow_le_pow_right (by omega) hn;have gd:decide ((i:Int)>(L:Int))=b:=hb.symm;have g9:decide ((L:Int)<(i:Int))=b:=hb.symm;have g8:decide (L<i)=b:=by rw[hb];simp
  obtain⟨D,hD⟩:∃ D,D=(i:Int)-(L:Int):=⟨_,rfl⟩;have ga:IntKind.i64.wrap ((i:Int)-(L:Int))=D:=by
   rw[hD];simp[IntKind.wrap,IntKind.bits];omega
  have HD:=Hd hD;clear hL hl hx h0 h1 g3 hb hz hD
  go_enter func7,ntmps7
  go_wp2_with fail;refine HC.out.mono ?_;rintro x w1 ⟨g,rfl,g0,hb⟩;have HF:Hid (∃ a F v,Ending.returned (.tuple #[.int .i64 D,.slice (some ⟨g,0,none⟩) (2^n) (2^n)])=.returned (.tuple #[.int .i64 a,v])/\(a,F)∈fs/\Zbu w1 v (tabB n F)/\(∀ g,v.ownBlock=some g->P g\/w.heap.size<=g/\∃ cur,w1.heap[g]?=some (.cells cur 4 (0,0)))/\Below w.heap.size w w1) :=
   Hd ⟨_,fun _=>b,_,rfl,by rw[HD.out];exact HM.out,g0.boolsIs (by rw[Zar];omega),fun q hq=>.inr ⟨by cases hq;exact(g0.lt g rfl).1,g0.typed q hq⟩,hb⟩
  clear g0 hb HC HM;go_wp2_with fail
  go_ret2
  exact HF.out
 .
  have gc:i<L:=by omega
  have g7:¬ (i:Int)>=(L:Int):=by omega
  obtain⟨b1,of1,rfl,c1⟩:=hl.cells i (by simp;omega);obtain⟨b2,of2,v2,rfl,c2,g2,hp2⟩:=hx.cells i (by simp;omega);have g1:i<hs.length:=by omega
  have q1:at0 (hs.map Prod.fst) i=hs[i].1:=by rw[Zcl (by simpa using g1)];simp
  have q2:(hs.map fun p=>tabB n p.2).getD i []=tabB n hs[i].2:=by simp[List.getD,g1]
  rw[q1] at c1;rw[q2] at g2;have HF:Hid (∀ w',Below w.heap.size w w'->∃ a F v,Ending.returned (.tuple #[.int .i64 hs[i].1,v2])=.returned (.tuple #[.int .i64 a,v])/\(a,F)∈fs/\Zbu w' v (tabB n F)/\(∀ g,v.ownBlock=some g->P g\/w.heap.size<=g/\∃ cur,w'.heap[g]?=some (.cells cur 4 (0,0)))/\Below w.heap.size w w') :=
   Hd fun w' hb=>⟨hs[i].1,hs[i].2,v2,rfl,g5.out _ (List.getElem_mem g1),g2.below hb,fun g hg=>.inl (hp2 g hg),hb⟩
  obtain⟨k1,g4⟩:∃ k1,k1=hs[i].1:=⟨_,rfl⟩;rw[<- g4] at c1 HF;clear hL hl hx g2 hp2 q1 q2 g4 hz g1 h0 h1
  go_enter func7,ntmps7
  go_upto_region 4 with fail;refine Zap (fun W:World=>W.cell? ⟨b1,of1+i,none⟩=some (.int .i64 k1)/\W.cell? ⟨b2,of2+i,none⟩=some v2) false 10 [(0,false),(1,false),(2,false),(3,false),(4,false),(5,false),(6,false),(7,false),(8,false),(9,false)] (by kernel_rfl) (by kernel_rfl) ⟨c1,c2⟩ ?_;simp only[planned,Zde]
  iterate 10
   refine Zaq rfl ?_;apply Exists.intro;refine⟨fun w' hw=>?_,?_⟩
   . obtain⟨h1,h2⟩:=hw;go_simp;rfl
   simp only[Zai]
  refine Zeg ?_;go_wp2_with fail
  go_ret2
  exact HF.out _ (Zaf w 1)
section
variable {K:Law}{n:Nat}{Od:List Nat->Prop}{room:Nat}{w0:World}{mb:Nat}{fs:List (Int×BF)}{nx:Int}{Wt:List Ev->Int->Prop}{hs:List (Int×BF)}{W:World}{o:Own}{m:ManD}{V:Nat->BF}{vl vx:Value}
theorem Zso (h:LawT K n Od room w0 mb fs nx Wt hs hs W o m V vl vx)(hsub:∀ p∈hs,p∈fs)(hn:n<=16)(hl:hs.length<=100)(k:Nat)(hk:k<256) :
 Calls prog 7 #[vl,vx,.int .i64 n,.int .u8 k] W fun x w'=>∃ a F v,x=.returned (.tuple #[.int .i64 a,v])/\(a,F)∈fs/\LawF w' o v (tabB n F)/\Below W.heap.size W w':=by
 refine(Zzx hn h.b2.zero h.b2.one (h.row hsub (by omega)) k hk).mono ?_;rintro x w' ⟨a,F,v,rfl,h1,h2,h3,h4⟩;refine⟨a,F,v,rfl,h1,⟨h2,fun g hg=>?_⟩,h4⟩;rcases h3 g hg with ⟨_,h6,h7,cur,h8⟩|⟨h5,cur,h6⟩
 . exact⟨Nat.lt_of_lt_of_le h6 h4.size,h7,cur,(h4.block g h6).trans h8⟩
 . exact⟨(Array.getElem?_eq_some_iff.1 h6).1,h.sat.lt.none h5,cur,h6⟩
end
open Go.RowKit
open Go.RowKit
section
variable {K:Law}{n:Nat}{room:Nat}{w0 w w':World}{mb:Nat}{fs:List (Int×BF)}{nx:Int}{o:Own}{m:ManD}{V:Nat->BF}{ws0:List Ev}
theorem Ybf (hK:Zb4 K)(h:SatE K n (fun _=>True) room w0 mb fs nx w o m V)(hw:m.waits <:+ ws0)(hn:nx<=549755813888)(hr:(fs.length+1)*2^n<=room){v:Nat}(hv:v<n) :
 Calls prog 23 #[.pointer (some ⟨mb,0,none⟩),.int .i64 v] w fun x w''=>x=.returned (.tuple #[.int .i64 nx,.int .i64 0])/\Goes K n (fun _=>True) room w0 mb (fs++[(nx,varF v)]) (nx+1) (W2 (SufW ws0)) o w w'':=by
 refine(Zmw hK h ws0 hw none (fun _ e=>by cases e) (fun _ e=>by cases e) (fun ev _=>Zfl hn ev) (by omega) v hv).mono ?_;rintro x w'' hp;obtain⟨o2,m2,V2,q1,q2,q3,q4⟩:=Zp2 hp Nat.one_le_two_pow hr;exact⟨q3,o2,m2,V2,q1,q2,q4⟩
end
open Go.RowKit
def StF (K:Law)(n room:Nat)(w0:World)(mb:Nat)(fs:List (Int×BF))(nx:Int)(ws0:List Ev)(rs:List (Value×BF))(W:World):Prop:=∃ o m V,m.waits <:+ ws0/\SatE K n (fun _=>True) room w0 mb fs nx W o m V/\∀ p∈rs,LawF W o p.1 (tabB n p.2)
section
variable {K:Law}{n room:Nat}{w0 w W w':World}{mb:Nat}{fs fs':List (Int×BF)}{nx nx':Int}{o:Own}{m:ManD}{V:Nat->BF}{ws0:List Ev}{rs:List (Value×BF)}{f:Nat}{args:Array Value}
theorem StF.below (h:StF K n room w0 mb fs nx ws0 rs w)(hb:Below w.heap.size w w'):StF K n room w0 mb fs nx ws0 rs w':=by
 obtain⟨o,m,V,h1,h2,h3⟩:=h;exact⟨o,m,V,h1,h2.below hb,fun p hp=>(h3 p hp).chg (Zb0 hb o)⟩
theorem StF.below0 (h:StF K n room w0 mb fs nx ws0 rs w):Below w0.heap.size w0 w:=by
 obtain⟨o,m,V,h1,h2,_⟩:=h;exact h2.chg.below0
theorem StF.go {R:Ending->Prop}(h:StF K n room w0 mb fs nx ws0 rs w)(hc:∀ o m V,m.waits <:+ ws0->SatE K n (fun _=>True) room w0 mb fs nx w o m V->Calls prog f args w fun x w'=>R x/\Goes K n (fun _=>True) room w0 mb fs' nx' (W2 (SufW ws0)) o w w') :
 Calls prog f args w fun x w'=>R x/\StF K n room w0 mb fs' nx' ws0 rs w':=by
 obtain⟨o,m,V,h1,h2,h3⟩:=h;refine(hc o m V h1 h2).mono ?_;rintro x w' ⟨q1,o',m',V',q2,q3,q4⟩;exact⟨q1,o',m',V',q3,q4,fun p hp=>(h3 p hp).chg q2⟩
theorem StF.ask {R:Ending->World->Prop}(h:StF K n room w0 mb fs nx ws0 rs w)(hc:∀ o m V,SatE K n (fun _=>True) room w0 mb fs nx w o m V->Calls prog f args w R):Calls prog f args w R:=by
 obtain⟨o,m,V,_,h2,_⟩:=h;exact hc o m V h2
theorem StF.tab (h:StF K n room w0 mb fs nx ws0 rs w){r:Value}{F:BF}(hp:(r,F)∈rs):TabA n w r F:=by
 obtain⟨o,m,V,_,_,h3⟩:=h;exact(h3 _ hp).tab
theorem StF.dep (h:StF K n room w0 mb fs nx ws0 rs w){k:Int}{F:BF}(hk:(k,F)∈fs):DepF n F:=by
 obtain⟨o,m,V,_,h2,_⟩:=h;exact h2.dep hk
theorem StF.of (hw:m.waits <:+ ws0)(h:SatE K n (fun _=>True) room w0 mb fs nx w o m V)(hr:∀ p∈rs,LawF w o p.1 (tabB n p.2)):StF K n room w0 mb fs nx ws0 rs w:=⟨o,m,V,hw,h,hr⟩
theorem Zx5 (h:StF K n room w0 mb fs nx ws0 rs w){k l:Int}{F G:BF}{b:Bool}(hf:(k,F)∈fs)(hg:(l,G)∈fs)(hb:b=true↔F=G):Calls prog 28 #[.pointer (some ⟨mb,0,none⟩),.int .i64 k,.int .i64 l] w fun x w'=>x=.returned (.tuple #[.bool b,.int .i64 0])/\w=w' :=
 h.ask fun o m V hs=>(Zlc hs hf hg).mono fun x w' ⟨b',q1,q2,q3⟩=>by
  obtain rfl:b'=b:=Bool.eq_iff_iff.2 (q2.trans hb.symm);exact⟨q1,q3⟩
end
open Go.RowKit
section
variable {K:Law}{n room:Nat}{w0 w W w':World}{mb:Nat}{fs fs':List (Int×BF)}{nx nx':Int}{o:Own}{m:ManD}{V:Nat->BF}{ws0:List Ev}{rs:List (Value×BF)}{f:Nat}{args:Array Value}
theorem Zyo (h:SatE K n (fun _=>True) room w0 mb fs nx w o m V){ks:List Int}{Fs:List BF}(hl:ks.length<=1000000)(hlen:Fs.length=ks.length)(hm:∀ i (h:i<ks.length),(ks[i],Fs[i]'(by omega))∈fs):ArgL fs w0 (w.alloc (.cells (Zbi ks).toArray 3)) o (some ⟨w.heap.size,0,none⟩) ks Fs :=
 ⟨Zes w ks hl,fun x hx=>by cases hx;exact⟨by simp,h.chg.size,h.lt.none (Nat.le_refl _)⟩,hlen,hm⟩
end
open Go.RowKit
open Go.RowKit
open Go.RowKit
open Go.RowKit
open Go.RowKit
theorem Zmk:∀ (l:List Nat) {F C:BF},SatF C->Dp l C->(∀ ρ,C ρ=true->F ρ=true)->∀ ρ,constrF l F C ρ=true
 | [],F,C,⟨ρ',h⟩,hd,hi,ρ=>hi ρ (by rw[<- h];exact hd ρ ρ' fun u hu=>by simp at hu)
 | v::l,F,C,hs,hd,hi,ρ=>Zmk l (Zr8 hs v _) (hd.cof _) (fun ρ' h=>by
  rw[Zek] at h ⊢;exact hi _ h) ρ
def Zvd (n:Nat)(ord:List Nat):Prop:=∀ v,v<n->v∈ord
section
variable {K:Law}{n room:Nat}{w0 w W w':World}{mb:Nat}{fs fs':List (Int×BF)}{nx nx':Int}{o:Own}{m:ManD}{V:Nat->BF}{ws0:List Ev}{rs:List (Value×BF)}{f:Nat}{args:Array Value}{A:List Nat->BF->Prop}
theorem SatE.ordAll {Od:List Nat->Prop}(h:SatE K n Od room w0 mb fs nx w o m V):Zvd n m.d.vars:=fun v hv=>by
 have hl:=h.ok.store.dag.lt v (by rw[h.vars];exact hv);have h5:=h.ok.store.inv v (by rw[h.vars];exact hv);rw[<- h5,show m.d.vars.getD (levN m.d v) 0=m.d.vars[levN m.d v] by simp[List.getD,hl]];exact List.getElem_mem _
theorem StF.goA (h:StF K n room w0 mb fs nx ws0 rs w)(hc:∀ o m V,m.waits <:+ ws0->SatE K n (fun _=>True) room w0 mb fs nx w o m V->Calls prog f args w (NewA K n room w0 mb fs nx ws0 A o w)) :
 Calls prog f args w fun x w'=>x=.returned (.tuple #[.int .i64 nx,.int .i64 0])/\∃ F ord,A ord F/\Zvd n ord/\StF K n room w0 mb (fs++[(nx,F)]) (nx+1) ws0 rs w':=by
 obtain⟨o,m,V,h1,h2,h3⟩:=h;refine(hc o m V h1 h2).mono ?_;rintro x w' ⟨q1,F,o',m',V',q2,q3,q4,q5⟩;exact⟨q1,F,m'.d.vars,q5,q4.ordAll,o',m',V',q3,q4,fun p hp=>(h3 p hp).chg q2⟩
theorem StF.constrain (h:StF Za5 n room w0 mb fs nx ws0 rs w)(h0:(0,fun _=>false)∈fs){kf kc:Int}{F C:BF}(hf:(kf,F)∈fs)(hc:(kc,C)∈fs)(hsat:SatF C)(hn:nx<=549755813888)(hr:fs.length*2^n+(2^n-1)*2^n<=room) :
 Calls prog 26 #[.pointer (some ⟨mb,0,none⟩),.int .i64 kf,.int .i64 kc] w fun x w'=>x=.returned (.tuple #[.int .i64 nx,.int .i64 0])/\∃ R ord,RelC ord F C R/\Zvd n ord/\StF Za5 n room w0 mb (fs++[(nx,R)]) (nx+1) ws0 rs w' :=
 h.goA fun o m V hw hs=>Zj3 hs h0 hf hc hsat hw hn hr
theorem StF.cofactor1 (h:StF Za5 n room w0 mb fs nx ws0 rs w)(hn6:n<=64){kf:Int}{F:BF}(hf:(kf,F)∈fs){v:Nat}{y:Bool}(hv:v<n)(hn:nx<=549755813888)(hr:fs.length*2^n+(2^n+(2^n-1)*2^n)<=room){T:World}(hT:T=w.alloc (.cells #[.int .i64 v,.bool y] 64)) :
 Calls prog 25 #[.pointer (some ⟨mb,0,none⟩),.int .i64 kf,.slice (some ⟨w.heap.size,0,none⟩) 1 1] T fun x w'=>x=.returned (.tuple #[.int .i64 nx,.int .i64 0])/\StF Za5 n room w0 mb (fs++[(nx,cofF F v y)]) (nx+1) ws0 rs w':=by
 subst hT;have hb:=Zad w (.cells #[.int .i64 v,.bool y] 64);have g0:=heap_alloc_new w (.cells #[.int .i64 v,.bool y] 64);obtain⟨o,m,V,h1,h2,h3⟩:=h;have g1:Zgm n [((v:Int),y)]=0:=by
  unfold Zgm;rw[if_pos (by intro p hp;simp at hp;subst hp;dsimp only;omega),if_pos (by simp)]
 refine(Zkw (ls:=[((v:Int),y)]) (h2.below hb) hn6 hf (c:=1) ⟨by simp,fun k hk=>?_⟩ (fun _ x hx=>by cases hx;exact h2.lt.none (Nat.le_refl _)) h1 hn (fun _=>by simpa using hr)).mono ?_
 .
  obtain rfl:k=0:=by simpa using hk
  exact⟨w.heap.size,0,rfl,by rw[cell_of_row _ _ 0 _ _ _ g0];rfl,by rw[cell_of_row _ _ 1 _ _ _ g0];rfl⟩
 .
  rintro x w' ⟨hx,_⟩;obtain⟨q1,o',m',V',q2,q3,q4⟩:=hx g1;refine⟨q1,o',m',V',q3,?_,fun p hp=>((h3 p hp).chg (Zb0 hb o)).chg q2⟩;have e:Zl9 [((v:Int),y)] F=cofF F v y:=by
   have:=Zuo [] ((v:Int),y) F;rw[List.nil_append] at this;rw[this]
   show cofF (Zl9 [] F) ((v:Int)).toNat y=_
   rw[Int.toNat_natCast];rfl
  rw[<- e];exact q4
theorem StF.and (hK:Zb4 K)(h:StF K n room w0 mb fs nx ws0 rs w){k1 k2:Int}{F1 F2:BF}(h1:(k1,F1)∈fs)(h2:(k2,F2)∈fs)(hn:nx<=549755813888)(hr:fs.length*2^n+2*(2^n-1)<=room){T:World}(hT:T=w.alloc (.cells #[.int .i64 k1,.int .i64 k2] 3)) :
 Calls prog 24 #[.pointer (some ⟨mb,0,none⟩),.slice (some ⟨w.heap.size,0,none⟩) 2 2] T fun x w'=>x=.returned (.tuple #[.int .i64 nx,.int .i64 0])/\StF K n room w0 mb (fs++[(nx,andF F1 F2)]) (nx+1) ws0 rs w':=by
 subst hT;have hb:=Zad w (.cells #[.int .i64 k1,.int .i64 k2] 3);obtain⟨o,m,V,q1,q2,q3⟩:=h
 have ha:=Zyo q2 (ks:=[k1,k2]) (Fs:=[F1,F2]) (by simp) rfl (fun i hi=>by
  rcases(show i=0\/i=1 by simp at hi;omega) with rfl|rfl
  . exact h1
  . exact h2)
 refine(Ycq (c:=2) hK (q2.below hb) ha q1 hn hr).mono ?_;rintro x w' ⟨r1,o',m',V',r2,r3,r4⟩;refine⟨r1,o',m',V',r3,?_,fun p hp=>((q3 p hp).chg (Zb0 hb o)).chg r2⟩;have e:Ycf 0 [F1,F2]=andF F1 F2:=by
  funext ρ
  show iteB (iteB true (F1 ρ) false) (F2 ρ) false=iteB (F1 ρ) (F2 ρ) false
  cases F1 ρ<;>cases F2 ρ<;>rfl
 rw[<- e];exact r4
end
open Go.RowKit
theorem Zvl:SatF (andF (varF 0) (varF 1)):=⟨fun _=>true,rfl⟩
theorem Ybp:DepF 2 (andF (varF 0) (varF 1)):=fun ρ ρ' h=>by
 show iteB (ρ 0) (ρ 1) false=iteB (ρ' 0) (ρ' 1) false
 rw[h 0 (by omega),h 1 (by omega)]
theorem Ybo:cofF (andF (varF 0) (varF 1)) 0 true=varF 1:=rfl
abbrev S17 (w:World)(mb:Nat)(fs:List (Int×BF))(nx:Int)(W:World):Prop:=StF Za5 2 400 w mb fs nx [] [] W
def l17A:List (Int×BF):=two++[(2,varF 0)]
def l17B:List (Int×BF):=l17A++[(3,varF 1)]
def l17C:List (Int×BF):=l17B++[(4,andF (varF 0) (varF 1))]
def l17D:List (Int×BF):=l17C++[(5,cofF (andF (varF 0) (varF 1)) 0 true)]
def l17E (R:BF):List (Int×BF):=l17D++[(6,R)]
theorem Zev (w:World):Calls prog 5 #[] w fun x w'=>x=.returned (.bool true)/\Below w.heap.size w w':=by
 have g0:=Hd (Zsj (K:=Za5) 2 400 w (by omega) (by omega) (by omega));have g4:Hid (∀ mb W,S17 w mb two 2 W->Calls prog 23 #[.pointer (some ⟨mb,0,none⟩),.int .i64 0] W fun x w'=>x=.returned (.tuple #[.int .i64 2,.int .i64 0])/\S17 w mb l17A 3 w') :=
  Hd fun mb W g=>g.go fun o m V hw hs=>Ybf Zb1 hs hw (by omega) (by decide) (v:=0) (by omega)
 have g3:Hid (∀ mb W,S17 w mb l17A 3 W->Calls prog 23 #[.pointer (some ⟨mb,0,none⟩),.int .i64 1] W fun x w'=>x=.returned (.tuple #[.int .i64 3,.int .i64 0])/\S17 w mb l17B 4 w') :=
  Hd fun mb W g=>g.go fun o m V hw hs=>Ybf Zb1 hs hw (by omega) (by decide) (v:=1) (by omega)
 have ga:Hid (∀ mb W,S17 w mb l17B 4 W->Calls prog 24 #[.pointer (some ⟨mb,0,none⟩),.slice (some ⟨W.heap.size,0,none⟩) 2 2] (W.alloc (.cells #[.int .i64 2,.int .i64 3] 3)) fun x w'=>x=.returned (.tuple #[.int .i64 4,.int .i64 0])/\S17 w mb l17C 5 w') :=
  Hd fun mb W g=>g.and Zb1 (k1:=2) (k2:=3) (F1:=varF 0) (F2:=varF 1) (by simp[l17B,l17A]) (by simp[l17B]) (by omega) (by decide) rfl
 have g9:Hid (∀ mb W,S17 w mb l17C 5 W->Calls prog 25 #[.pointer (some ⟨mb,0,none⟩),.int .i64 4,.slice (some ⟨W.heap.size,0,none⟩) 1 1] (W.alloc (.cells #[.int .i64 0,.bool true] 64)) fun x w'=>x=.returned (.tuple #[.int .i64 5,.int .i64 0])/\S17 w mb l17D 6 w') :=
  Hd fun mb W g=>g.cofactor1 (by omega) (kf:=4) (F:=andF (varF 0) (varF 1)) (by simp[l17C]) (v:=0) (y:=true) (by omega) (by omega) (by decide) rfl
 have g8:Hid (∀ mb W,S17 w mb l17D 6 W->Calls prog 26 #[.pointer (some ⟨mb,0,none⟩),.int .i64 3,.int .i64 4] W fun x w'=>x=.returned (.tuple #[.int .i64 6,.int .i64 0])/\S17 w mb (l17E fun _=>true) 7 w') :=
  Hd fun mb W g=>(g.constrain (by simp[l17D,l17C,l17B,l17A,two]) (kf:=3) (kc:=4) (F:=varF 1) (C:=andF (varF 0) (varF 1)) (by simp[l17D,l17C,l17B]) (by simp[l17D,l17C]) Zvl (by omega) (by decide)).mono (by
   rintro x w' ⟨q1,R,ord,q2,q3,q4⟩;refine⟨q1,?_⟩;have e:R=fun _=>true:=by
    funext ρ;rw[show R=_ from q2];refine Zmk ord Zvl (Yc7 Ybp q3) (fun ρ' h=>?_) ρ;have h2:iteB (ρ' 0) (ρ' 1) false=true:=h
    show ρ' 1=true
    cases h0:ρ' 0<;>cases h1:ρ' 1<;>simp_all [iteB]
   rw[e] at q4;exact q4)
 have g7:Hid (∀ mb W R,S17 w mb (l17E R) 7 W->Calls prog 27 #[.pointer (some ⟨mb,0,none⟩),.int .i64 4,.int .i64 0] W fun x w'=>x=.returned (.tuple #[.int .i64 0,.int .i64 20])/\S17 w mb (l17E R) 7 w') :=
  Hd fun mb W R g=>(g.ask fun o m V hs=>Zl3 hs (kf:=4) (kc:=0) (.inr ⟨rfl,by simp[l17E,l17D,l17C,l17B,l17A,two],⟨andF (varF 0) (varF 1),by simp[l17E,l17D,l17C]⟩,by simp[l17E,l17D,l17C,l17B,l17A,two]⟩)).mono (by
   rintro x w' ⟨q1,q2⟩;exact⟨q1,g.below q2⟩)
 have g6:Hid (∀ mb W R,S17 w mb (l17E R) 7 W->Calls prog 28 #[.pointer (some ⟨mb,0,none⟩),.int .i64 5,.int .i64 3] W fun x w'=>x=.returned (.tuple #[.bool true,.int .i64 0])/\W=w') :=
  Hd fun mb W R g=>Zx5 g (k:=5) (l:=3) (F:=cofF (andF (varF 0) (varF 1)) 0 true) (G:=varF 1) (b:=true) (by simp[l17E,l17D]) (by simp[l17E,l17D,l17C,l17B]) (by simp[Ybo])
 have g5:Hid (∀ mb W,S17 w mb (l17E fun _=>true) 7 W->Calls prog 28 #[.pointer (some ⟨mb,0,none⟩),.int .i64 6,.int .i64 1] W fun x w'=>x=.returned (.tuple #[.bool true,.int .i64 0])/\W=w') :=
  Hd fun mb W g=>Zx5 g (k:=6) (l:=1) (F:=fun _=>true) (G:=fun _=>true) (b:=true) (by simp[l17E]) (by simp[l17E,l17D,l17C,l17B,l17A,two]) (by simp)
 go_enter func5,ntmps5
 go_wp2_with fail;refine g0.out.mono ?_;rintro x w1 ⟨mb,rfl,o,m,V,g2,g1,_,gb⟩;have H1:=Hd (g4.out mb w1 (StF.of (by rw[g1];exact List.suffix_refl _) g2 (by simp)));clear g2 g1 gb g0 g4;go_wp2_with fail;refine H1.out.mono ?_;rintro x w2 ⟨rfl,h2⟩;have H2:=Hd (g3.out mb w2 h2);clear h2 H1 g3;go_wp2_with fail;refine H2.out.mono ?_;rintro x w3 ⟨rfl,h3⟩;have H3:=Hd (ga.out mb w3 h3);clear h3 H2 ga;go_wp2_with fail;refine H3.out.mono ?_;rintro x w4 ⟨rfl,h4⟩;have H4:=Hd (g9.out mb w4 h4);clear h4 H3 g9;go_wp2_with fail;refine H4.out.mono ?_;rintro x w5 ⟨rfl,h5⟩;have H5:=Hd (g8.out mb w5 h5);clear h5 H4 g8;go_wp2_with fail;refine H5.out.mono ?_;rintro x w6 ⟨rfl,h6⟩;have H6:=Hd (g7.out mb w6 _ h6);clear h6 H5 g7;go_wp2_with fail;refine H6.out.mono ?_;rintro x w7 ⟨rfl,h7⟩;have H7:=Hd h7;have gd:=Hd (g6.out _ _ _ h7);have gc:=Hd (g5.out _ _ h7);clear h7 H6 g6 g5;go_wp2_with fail;refine gd.out.mono ?_;rintro x w' ⟨rfl,rfl⟩;go_wp2_with fail;refine gc.out.mono ?_;rintro x w' ⟨rfl,rfl⟩;go_wp2_with fail;go_ret;exact⟨rfl,H7.out.below0⟩
open Go.RowKit
section
variable {K:Law}{n:Nat}{Rel:List Nat->BF->BF->BF->Prop}{Yes:BF->BF->Prop}{Bw:World->Prop}{T:Nat->Prop}{c:ConC}{o o':Own}{W W':World}{mb:Nat}{m m':ManD}{V V':Nat->BF}{J:Nat}
theorem Zv4 (hB:∀ W W',Bw W->(∀ q,T q->W'.heap[q]?=W.heap[q]?)->Bw W')(o:Own)(W:World)(m:ManD)(V:Nat->BF)(f e:Nat)(hs:ConS K n Bw T c mb o W m V)(hf:okE (Zaa m.d) f)(h0:f/2=0) :
 Calls prog 114 (#[.int .i64 f,.int .i64 e]++c.caps) W (Zbr K 0 o W mb m V fun _ V' r=>ef V' r=ef V f):=by
 have g6:∀ (fn:Fn) (first cap:Array Value) (w:World),(Instr.makeFunc fn first cap).run prog w=.ok (.func fn first cap) w:=fun _ _ _ _=>rfl
 obtain⟨w2,g2,g3,g4,cf,ce⟩:=boxes2e W (.int .i64 f) (.int .i64 e) 76 76;have g5:Hid (_=w2):=Hd g2.symm;have hk:=hs.ok;have g0:AtC K 0 o W mb m V o w2 m V:=(AtC.refl hs.is hs.lt hk).below g3;obtain⟨P,hP⟩:∃ P:Ending->World->Prop,P=Zbr K 0 o W mb m V fun _ V' r=>ef V' r=ef V f:=⟨_,rfl⟩
 rw[<- hP];have g1:=Hd (Zgf f w2 (Zg6 hs.is hf))
 have HF:Hid (P (.returned (.int .i64 (f:Nat))) w2):=Hd (by
  rw[hP];exact .inl ⟨f,o,m,V,rfl,g0,hf,rfl⟩)
 rw[decide_eq_true (show enode f=0 from h0)] at g1
 by_cases h1:e=0
 .
  have hb:(((e:Nat):Int) == 0)=true:=by subst h1;rfl
  clear hP hs hk g0 hB hf g1 g2 g3 g4 h1 h0;obtain⟨bx,bo,bd,ba,xb,op,g,lw⟩:=c;unfold ConC.caps
  show Calls _ _ #[_,_,_,_,_,_] _ _
  go_enter func114,ntmps114
  go_upto_region 1 with fail;rw[g5.out];go_wp2_with fail;exact HF.out
 .
  have hb:(((e:Nat):Int) == 0)=false:=by rw[beq_eq_false_iff_ne];omega
  clear hP hs hk g0 hB hf g2 g3 g4 h1 h0;obtain⟨bx,bo,bd,ba,xb,op,g,lw⟩:=c;unfold ConC.caps
  show Calls _ _ #[_,_,_,_,_,_] _ _
  go_enter func114,ntmps114
  go_upto_region 1 with fail;rw[g5.out];go_wp2_with fail;refine g1.out.mono ?_;rintro y w' ⟨rfl,rfl⟩;go_wp2_with fail;exact HF.out
theorem Zn5 {op:Int}(hB:∀ W W',Bw W->(∀ q,T q->W'.heap[q]?=W.heap[q]?)->Bw W'){g xb:Nat}{lw:Array Value}
 {f e:Nat} (hm:Zcg (K m.d V) o W mb m) (hlt:Zaj o W) (hx:Zce o W xb mb) (hk:Zal m.d V) (hn:m.d.vars.length=n) (hbw:Bw W) (hT:∀ q,T q->q<W.heap.size/\o q=none) (hf:okE (Zaa m.d) f) (h0:f/2=0) :
 Calls prog 66 #[.pointer (some ⟨xb,0,none⟩),.int .i64 op,.int .i64 f,.int .i64 e,.func (.func g) #[] lw] W (Zbr K 0 o W mb m V fun _ V' r=>ef V' r=ef V f):=by
 have gh:∀ (fn:Fn) (first cap:Array Value) (w:World),(Instr.makeFunc fn first cap).run prog w=.ok (.func fn first cap) w:=fun _ _ _ _=>rfl
 obtain⟨w4,g4⟩:∃ w4,w4=(((W.alloc (.cells #[.pointer (some ⟨xb,0,none⟩)] 75)).alloc (.cells #[.int .i64 op] 3)).alloc (.cells #[.func (.func g) #[] lw] 109)).alloc (.cells #[.nilFunc] 161):=⟨_,rfl⟩;have gg:Hid (_=w4):=Hd g4.symm;have gf:w4.heap.size=W.heap.size+1+1+1+1:=by rw[g4];simp
 have gd:Below W.heap.size W w4:=by rw[g4];exact(((Zad _ _).alloc (by simp) _).alloc (by simp;omega) _).alloc (by simp;omega) _
 have g0:w4.heap[W.heap.size]?=some (.cells #[.pointer (some ⟨xb,0,none⟩)] 75 (0,0)):=by
  rw[g4];exact(Go.heap_alloc_old _ _ (by simp;omega)).trans ((Go.heap_alloc_old _ _ (by simp;omega)).trans ((Go.heap_alloc_old _ _ (by simp)).trans (heap_alloc_new _ _)))
 have g1:w4.heap[W.heap.size+1]?=some (.cells #[.int .i64 op] 3 (0,0)):=by
  have:=heap_alloc_new (W.alloc (.cells #[.pointer (some ⟨xb,0,none⟩)] 75)) (.cells #[.int .i64 op] 3);rw[World.size_alloc] at this;rw[g4];exact(Go.heap_alloc_old _ _ (by simp<;>omega)).trans ((Go.heap_alloc_old _ _ (by simp)).trans this)
 have g2:w4.heap[W.heap.size+1+1]?=some (.cells #[.func (.func g) #[] lw] 109 (0,0)):=by
  have:=heap_alloc_new ((W.alloc (.cells #[.pointer (some ⟨xb,0,none⟩)] 75)).alloc (.cells #[.int .i64 op] 3)) (.cells #[.func (.func g) #[] lw] 109);rw[World.size_alloc,World.size_alloc] at this;rw[g4];exact(Go.heap_alloc_old _ _ (by simp)).trans this
 have g3:w4.heap[W.heap.size+1+1+1]?=some (.cells #[.nilFunc] 161 (0,0)):=by
  have:=heap_alloc_new (((W.alloc (.cells #[.pointer (some ⟨xb,0,none⟩)] 75)).alloc (.cells #[.int .i64 op] 3)).alloc (.cells #[.func (.func g) #[] lw] 109)) (.cells #[.nilFunc] 161);rw[World.size_alloc,World.size_alloc,World.size_alloc] at this;rw[g4];exact this
 obtain⟨FV,gb⟩:∃ FV:Value,FV=.func (.func 114) #[] #[.pointer (some ⟨W.heap.size,0,none⟩),.pointer (some ⟨W.heap.size+1,0,none⟩),.pointer (some ⟨W.heap.size+1+1+1,0,none⟩),.pointer (some ⟨W.heap.size+1+1,0,none⟩)]:=⟨_,rfl⟩;have c6:=cell1 g3;have f6:w4.frozen? ⟨W.heap.size+1+1+1,0,none⟩=false:=by simp[World.frozen?,g3]
 obtain⟨w5,g5⟩:∃ w5,w5=w4.setCell ⟨W.heap.size+1+1+1,0,none⟩ FV:=⟨_,rfl⟩;have gi:Hid (_=w5):=Hd g5.symm;have g9:∀ q:Nat,q≠W.heap.size+1+1+1->w5.heap[q]?=w4.heap[q]?:=fun q hq=>by rw[g5];exact Zag hq _
 have e6:w5.heap[W.heap.size+1+1+1]?=some (.cells #[FV] 161 (0,0)):=by rw[g5];exact Zah g3 _
 have g8:Below W.heap.size W w5:=by rw[g5];exact gd.setCell (p:=⟨W.heap.size+1+1+1,0,none⟩) (by show W.heap.size<=W.heap.size+1+1+1;omega) _
 have ge:(store ⟨W.heap.size+1+1+1,0,none⟩ FV).run prog w4=.ok () w5:=by
  rw[run_store _ _ _ _ _ (by rw[gb];rfl)];simp[c6,f6,g5]
 have k6:w5.cell? ⟨W.heap.size+1+1+1,0,none⟩=some FV:=cell1 e6;rw[gb] at k6 ge;have g6:AtC K 0 o W mb m V o w5 m V:=(AtC.refl hm hlt hk).below g8;have k0:w5.cell? ⟨W.heap.size,0,none⟩=some (.pointer (some ⟨xb,0,none⟩)):=cell1 ((g9 _ (by omega)).trans g0);have k1:w5.cell? ⟨W.heap.size+1,0,none⟩=some (.int .i64 op):=cell1 ((g9 _ (by omega)).trans g1);have k2:w5.cell? ⟨W.heap.size+1+1,0,none⟩=some (.func (.func g) #[] lw):=cell1 ((g9 _ (by omega)).trans g2);have hs:ConS K n Bw T ⟨W.heap.size,W.heap.size+1,W.heap.size+1+1+1,W.heap.size+1+1,xb,op,g,lw⟩ mb o w5 m V:=by
  refine⟨g6.st.is,g6.st.lt,hk,hn,⟨(g8.cell (p:=⟨xb,0,none⟩) (Zab hx.cell)).trans hx.cell,hx.own⟩,hB _ _ hbw (fun q hq=>g8.block q (hT q hq).1),k0,k1,k6,k2,?_,fun q hq=>Nat.lt_of_lt_of_le (hT q hq).1 g8.size⟩;rintro q (rfl|rfl|rfl|rfl|hq)
  . exact hlt.none (Nat.le_refl _)
  . exact hlt.none (by show W.heap.size<=W.heap.size+1;omega)
  . exact hlt.none (by show W.heap.size<=W.heap.size+1+1+1;omega)
  . exact hlt.none (by show W.heap.size<=W.heap.size+1+1;omega)
  . exact(hT q hq).2
 have ga:=Zv4 (mb:=mb) (c:=⟨W.heap.size,W.heap.size+1,W.heap.size+1+1+1,W.heap.size+1+1,xb,op,g,lw⟩) hB o w5 m V f e hs hf h0;obtain⟨P,hP⟩:∃ P:Ending->World->Prop,P=Zbr K 0 o W mb m V fun _ V' r=>ef V' r=ef V f:=⟨_,rfl⟩
 have g7:Hid (Calls prog 114 #[.int .i64 f,.int .i64 e,.pointer (some ⟨W.heap.size,0,none⟩),.pointer (some ⟨W.heap.size+1,0,none⟩),.pointer (some ⟨W.heap.size+1+1+1,0,none⟩),.pointer (some ⟨W.heap.size+1+1,0,none⟩)] w5 fun x w'=>(∃ r:Nat,x=.returned (.int .i64 r)/\P x w')\/∃ er evt ev,x=Zbg er evt ev/\P x w'):=Hd (Calls.mono ga fun x w' hx=>by
  have gc:P x w':=by
   rw[hP];exact Zbr.base g6 (by omega) hx
  rcases hx.kind with ⟨r,rfl⟩|⟨er,evt,ev,rfl⟩
  . exact .inl ⟨r,rfl,gc⟩
  . exact .inr ⟨er,evt,ev,rfl,gc⟩)
 have eg1:=Zet;rw[<- hP];clear k0 k1 k2 hP ga hs g6 hB hm hlt hx hk hn hbw hT hf h0 gd g8 g9 e6 g0 g1 g2 g3 g4 g5 gf gb
 go_enter func66,ntmps66
 go_upto_region 2 with fail;rw[gg.out];go_wp2_with fail;refine g7.out.mono ?_;rintro x w6 (⟨r,rfl,hp⟩|⟨er,evt,ev,rfl,hp⟩)
 . have HF:=Hd hp;clear hp g7;go_wp2_with fail;exact HF.out
 . have HF:=Hd hp;clear hp g7;unfold Zbg;go_wp2_with fail;exact⟨rfl,HF.out⟩
end
section
variable {K:Law}{n k:Nat}{Od:List Nat->Prop}{room:Nat}{w0:World}{fs:List (Int×BF)}{nx:Int}{o o':Own}{w w1 W:World}{mb xb:Nat}{m:ManD}{V:Nat->BF}{ws0:List Ev}
theorem Zus (hm:Zcg (Za5 m.d V) o w mb m)(hlt:Zaj o w)(hx:Zce o w xb mb)(hk:Zal m.d V)(hn:m.d.vars.length=n){f e:Nat}(hf:okE (Zaa m.d) f)(h0:f/2=0) :
 Calls prog 46 #[.pointer (some ⟨xb,0,none⟩),.int .i64 f,.int .i64 e] w (Zbr Za5 0 o w mb m V fun _ V' r=>ef V' r=ef V f):=by
 have g6:∀ (fn:Fn) (first cap:Array Value) (w:World),(Instr.makeFunc fn first cap).run prog w=.ok (.func fn first cap) w:=fun _ _ _ _=>rfl
 obtain⟨w1,g2⟩:∃ w1,w1=w.alloc (.cells #[.pointer (some ⟨xb,0,none⟩)] 75):=⟨_,rfl⟩;have HW1:Hid (_=w1):=Hd g2.symm;have g4:Below w.heap.size w w1:=by rw[g2];exact Zad _ _
 have cb:w1.cell? ⟨w.heap.size,0,none⟩=some (.pointer (some ⟨xb,0,none⟩)):=by rw[g2];exact cell1 (heap_alloc_new _ _)
 have g0:AtC Za5 0 o w mb m V o w1 m V:=(AtC.refl hm hlt hk).below g4;obtain⟨P,hP⟩:∃ P:Ending->World->Prop,P=Zbr Za5 0 o w mb m V fun _ V' r=>ef V' r=ef V f:=⟨_,rfl⟩
 have g3:=Zn5 (Bw:=fun W=>W.cell? ⟨w.heap.size,0,none⟩=some (.pointer (some ⟨xb,0,none⟩))) (T:=fun q=>q=w.heap.size) (xb:=xb) (K:=Za5) (n:=n) (e:=e) (op:=1702) (g:=96) (lw:=#[.pointer (some ⟨w.heap.size,0,none⟩)]) (fun W W' h hk=>(World.cell?_of_block (w:=W) (a:=⟨w.heap.size,0,none⟩) (hk _ rfl)).trans h) g0.st.is g0.st.lt ⟨(g4.cell (p:=⟨xb,0,none⟩) (Zab hx.cell)).trans hx.cell,hx.own⟩ hk hn cb (fun q hq=>by subst hq;exact⟨Zab cb,hlt.none (Nat.le_refl _)⟩) hf h0
 have g1:Hid (Calls prog 66 #[.pointer (some ⟨xb,0,none⟩),.int .i64 1702,.int .i64 f,.int .i64 e,.func (.func 96) #[] #[.pointer (some ⟨w.heap.size,0,none⟩)]] w1 fun x w'=>(∃ r:Nat,x=.returned (.int .i64 r)/\P x w')\/∃ er evt ev,x=Zbg er evt ev/\P x w'):=Hd (g3.mono fun x w' hx=>by
  have g5:P x w':=by
   rw[hP];exact Zbr.base g0 (by omega) hx
  rcases hx.kind with ⟨r,rfl⟩|⟨er,evt,ev,rfl⟩
  . exact .inl ⟨r,rfl,g5⟩
  . exact .inr ⟨er,evt,ev,rfl,g5⟩)
 rw[<- hP];clear hP g3 hm hlt hx hk hn hf h0 g4 g0 g2
 go_enter func46,ntmps46
 go_upto_region 1 with fail;rw[HW1.out];go_wp2_with fail;refine g1.out.mono ?_;rintro x w6 (⟨r,rfl,hp⟩|⟨er,evt,ev,rfl,hp⟩)
 . have HF:=Hd hp;clear hp g1;go_wp2_with fail;exact HF.out
 . have HF:=Hd hp;clear hp g1;unfold Zbg;go_wp2_with fail;exact⟨rfl,HF.out⟩
end
open Go.RowKit
theorem Zli (bx:List Bool)(hpos:0<bx.length)(ax:Option Addr)(cx:Nat)(w:World)(h1:Zbp w ax bx){r:Bool}(hr:r=true↔∀ q,q<bx.length->bx.getD q false=bx.getD 0 false) :
 Calls prog 100 #[.slice ax bx.length cx] w fun x w'=>x=.returned (.bool r)/\Below w.heap.size w w':=by
 have H1:=Hd h1;have hl:=h1.len;have HR:=Hd hr;obtain⟨L,hL⟩:∃ L,L=bx.length:=⟨_,rfl⟩;have HL:=Hd hL;rw[<- hL] at hl hpos ⊢;clear h1 hL hr
 go_enter func100,ntmps100
 go_wp2_with fail
 go_loopw [2,3] (fun s2 s3 wr=>∃ j:Nat,j<=L/\s3=.int .i64 j/\Hid (Below w.heap.size w wr)/\Hid (∀ q,q<j->bx.getD q false=bx.getD 0 false)) (fun _ s3 _=>L-(intOf s3).toNat)
 case atStart=>exact⟨0,Nat.zero_le _,rfl,Hd (Below.refl _ _),Hd fun q hq=>by omega⟩
 case round =>
  obtain⟨j,hj,rfl,HB,HQ⟩:=hrel
  by_cases g4:j<L
  .
   obtain⟨b1,of1,rfl,c1⟩:=(H1.out.below HB.out).cells j (by rw[<- HL.out];exact g4);obtain⟨b2,of2,he,c2⟩:=(H1.out.below HB.out).cells 0 (by rw[<- HL.out];exact hpos);injection he with he
   injection he with ga g9
   subst ga;subst g9;rw[Nat.add_zero] at c2;have g2:=Hd (HB.out.trans ((Zaf wr 1).mono HB.out.size));have g8:(j:Int)<(L:Int):=by omega
   have gb:(0:Int)<(L:Int):=by omega
   obtain⟨y1,g1⟩:∃ y,y=bx.getD j false:=⟨_,rfl⟩;obtain⟨y2,g0⟩:∃ y,y=bx.getD 0 false:=⟨_,rfl⟩;rw[<- g1] at c1;rw[<- g0] at c2;have g5:Hid (y1=y2->∀ q,q<j+1->bx.getD q false=bx.getD 0 false):=Hd fun e q hq=>by
    rcases Nat.lt_or_ge q j with h|h
    . exact HQ.out q h
    .
     obtain rfl:q=j:=by omega
     rw[<- g1,<- g0,e]
   have g6:Hid (y1≠y2->r=false):=Hd fun g7=>by
    cases r with
    | false=>rfl
    | true=>exact absurd (HR.out.1 rfl j (by rw[<- HL.out];exact g4)) (by rw[<- g1,<- g0];exact g7)
   clear g1 g0;go_upto_region 4 with fail;refine Zap (fun W:World=>W.cell? ⟨b1,of1+j,none⟩=some (.bool y1)/\W.cell? ⟨b1,of1,none⟩=some (.bool y2)) false 8
    [(0,false),(1,false),(2,false),(3,false),(4,false),(5,false),(6,false),(7,false)] (by kernel_rfl) (by kernel_rfl) ⟨c1,c2⟩ ?_
   simp only[planned,Zde]
   iterate 8
    refine Zaq rfl ?_;apply Exists.intro;refine⟨fun w' hw=>?_,?_⟩
    . obtain⟨h1,h2⟩:=hw;go_simp;rfl
    simp only[Zai]
   refine Zeg ?_;clear c1 c2;cases y1<;>cases y2
   .
    have g3:=Hd (g5.out rfl);go_wp2_with fail;go_roundw
    case rel=>exact⟨j+1,by omega,by go_num,g2,g3⟩
    case measure=>simp[intOf];omega
   . have HF:Hid (Ending.returned (.bool false)=.returned (.bool r)):=Hd (by rw[g6.out (by simp)]);go_wp2_with fail;go_ret;exact⟨HF.out,g2.out⟩
   . have HF:Hid (Ending.returned (.bool false)=.returned (.bool r)):=Hd (by rw[g6.out (by simp)]);go_wp2_with fail;go_ret;exact⟨HF.out,g2.out⟩
   .
    have g3:=Hd (g5.out rfl);go_wp2_with fail;go_roundw
    case rel=>exact⟨j+1,by omega,by go_num,g2,g3⟩
    case measure=>simp[intOf];omega
  .
   have HF:Hid (Ending.returned (.bool true)=.returned (.bool r)):=Hd (by
    rw[HR.out.2 fun q hq=>HQ.out q (by rw[<- HL.out] at hq;omega)])
   have g8:¬ (j:Int)<(L:Int):=by omega
   clear HQ;go_wp2_with fail;go_ret;exact⟨HF.out,HB.out⟩
theorem Zu1 {n:Nat}{F:BF}(h:DepF n F):(∀ q,q<(tabB n F).length->(tabB n F).getD q false=(tabB n F).getD 0 false)↔∃ c,F=fun _=>c:=by
 constructor
 . intro hq;obtain⟨c,hc⟩:∃ c,c=(tabB n F).getD 0 false:=⟨_,rfl⟩;refine⟨c,Zon h (DepF.const c) ?_⟩;rw[<- Zen];refine(Zom (by simp) fun i hi=>?_).symm;have:=hq i (by rw[Zar];exact hi);rw[<- hc,Zdc hi] at this;rw[this];simp[List.getD,hi]
 . rintro⟨c,rfl⟩ q hq;rw[Zar] at hq;rw[Zdc hq,Zdc (Nat.pow_pos (by omega))]
theorem Zgu {n:Nat}{F:BF}{x:Value}{w:World}(h1:TabA n w x F)(hd:DepF n F){r:Bool}(hr:r=true↔∃ c,F=fun _=>c) :
 Calls prog 100 #[x] w fun e w'=>e=.returned (.bool r)/\Below w.heap.size w w':=by
 obtain⟨a,c,rfl,k1⟩:=h1;have:=Zli (tabB n F) (by rw[Zar];exact Nat.pow_pos (by omega)) a c w k1 (hr.trans (Zu1 hd).symm);rw[Zar] at this;exact this
open Go.RowKit
theorem Zm7 {n:Nat}{F G:BF}{x y:Value}{w:World}{b:Bool}(h1:TabA n w x F)(h2:TabA n w y G)(d1:DepF n F)(d2:DepF n G)(hb:b=true↔F=G):Calls prog 130 #[x,y] w fun e w'=>e=.returned (.bool b)/\Below w.heap.size w w':=by
 obtain⟨a,c,rfl,k1⟩:=h1;obtain⟨a2,c2,rfl,k2⟩:=h2;have:=Ziw (tabB n F) (tabB n G) (by simp[Zar]) a a2 c c2 w k1 k2;rw[Zar] at this;refine this.mono ?_;rintro e w' ⟨rfl,g0⟩;refine⟨?_,g0⟩;rw[show decide (tabB n F=tabB n G)=b from ?_];rw[Bool.eq_iff_iff,decide_eq_true_iff,hb];exact⟨fun e=>Zon d1 d2 e,fun e=>by rw[e]⟩
def Zku (l:List BF)(F:BF):Prop:=∃ i,∃ h:i<l.length,l[i]=F\/l[i]=notF F
theorem Zqa {n:Nat}(hn:n<=16){a:Option Addr}{c:Nat}{Fs:List BF}{F:BF}{x:Value}{w:World}(hl:Zmi n w a Fs)(hx:TabA n w x F)(dF:DepF n F)(dl:∀ G∈Fs,DepF n G){r:Bool}(hr:r=true↔Zku Fs F) :
 Calls prog 101 #[.slice a Fs.length c,x] w fun e w'=>e=.returned (.bool r)/\Below w.heap.size w w':=by
 have HN:=Hd (Zfe hn hx);have HX:=Hd hx;have HH:=Hd hl;have ge:=hl.len;have HR:=Hd hr;have HD:=Hd dF;have gi:=Hd dl;obtain⟨L,hL⟩:∃ L,L=Fs.length:=⟨_,rfl⟩;have HL:=Hd hL;rw[<- hL] at ge ⊢;clear hl hx hL hr dF dl
 go_enter func101,ntmps101
 go_wp2_with fail;refine HN.out.mono ?_;rintro e w1 ⟨z,rfl,hz,ga⟩;have HZ:Hid (TabA n w1 z (notF F)):=Hd (TabA.is hz);have g0:=Hd ga;have gg:=Hd (Below.refl w1.heap.size w1);clear hz ga HN;go_wp2_with fail
 go_loopw [4,6] (fun s4 s6 wr=>∃ j:Nat,j<=L/\s6=.int .i64 j/\Hid (Below w1.heap.size w1 wr)/\Hid (∀ q (h:q<Fs.length),q<j->Fs[q]≠F/\Fs[q]≠notF F)) (fun _ s6 _=>L-(intOf s6).toNat)
 case atStart=>exact⟨0,Nat.zero_le _,rfl,gg,Hd fun q _ hq=>by omega⟩
 case round =>
  obtain⟨j,hj,rfl,HB,HQ⟩:=hrel
  by_cases gd:j<L
  .
   have g8:j<Fs.length:=by rw[<- HL.out];exact gd
   have hb:=g0.out.trans (HB.out.mono g0.out.size);obtain⟨b1,of1,v,rfl,c1,ht⟩:=(HH.out.below hb).cells j g8;have gf:(j:Int)<(L:Int):=by omega
   obtain⟨G,hG⟩:∃ G,G=Fs[j]:=⟨_,rfl⟩;have dG:DepF n G:=by rw[hG];exact gi.out _ (List.getElem_mem _)
   rw[<- hG] at ht;obtain⟨p1,g4⟩:=Zg1 (G=F);obtain⟨p2,hp2⟩:=Zg1 (G=notF F);have g5:=Hd (Zm7 ht (HX.out.below hb) dG HD.out g4);have HT:=Hd ht;have g7:Hid (∀ W,Below wr.heap.size wr W->Calls prog 130 #[v,z] W fun e w'=>e=.returned (.bool p2)/\Below W.heap.size W w'):=Hd fun W hw=>Zm7 (HT.out.below hw) (HZ.out.below (HB.out.trans (hw.mono HB.out.size))) dG HD.out.not hp2
   have g6:Hid (p1=false->p2=false->∀ q (h:q<Fs.length),q<j+1->Fs[q]≠F/\Fs[q]≠notF F):=Hd fun e1 e2 q hq gj=>by
    rcases Nat.lt_or_ge q j with h|h
    . exact HQ.out q hq h
    .
     obtain rfl:q=j:=by omega
     rw[<- hG];exact⟨fun e=>(by rw[g4.2 e] at e1;cases e1),fun e=>(by rw[hp2.2 e] at e2;cases e2)⟩
   have g2:Hid ((p1=true\/p2=true)->r=true):=Hd fun h=>HR.out.2 ⟨j,g8,by rw[<- hG];exact h.imp g4.1 hp2.1⟩
   clear g4 hp2 hG dG ht hb HQ;cases p1 with
   | true =>
     have HF:Hid (Ending.returned (.bool true)=.returned (.bool r)):=Hd (by rw[g2.out (.inl rfl)]);clear g2 g6 g7;go_wp2_with fail;refine g5.out.mono ?_;rintro e w2 ⟨rfl,g1⟩;have g3:=Hd (g0.out.trans ((HB.out.trans (g1.mono HB.out.size)).mono g0.out.size));clear g1 g5 c1;go_wp2_with fail;go_ret;exact⟨HF.out,g3.out⟩
   | false =>
     go_wp2_with fail;refine g5.out.mono ?_;rintro e w2 ⟨rfl,g1⟩;have gb:=Hd (g7.out _ g1);have c2:=(g1.cell (p:=⟨b1,of1+j,none⟩) (Zab c1)).trans c1;have HB2:=Hd (HB.out.trans (g1.mono HB.out.size));clear g1 g5 g7 c1;go_wp2_with fail;refine gb.out.mono ?_;rintro e w3 ⟨rfl,g9⟩;have gc:=Hd (HB2.out.trans (g9.mono HB2.out.size));clear g9 gb c2;cases p2 with
     | true =>
       have HF:Hid (Ending.returned (.bool true)=.returned (.bool r)):=Hd (by rw[g2.out (.inr rfl)]);have g3:=Hd (g0.out.trans (gc.out.mono g0.out.size));clear g2 g6;go_wp2_with fail;go_ret;exact⟨HF.out,g3.out⟩
     | false =>
       have gh:=Hd (g6.out (by first|rfl|trivial) (by first|rfl|trivial));clear g2 g6;go_wp2_with fail;go_roundw
       case rel=>exact⟨j+1,by omega,by go_num,gc,gh⟩
       case measure=>simp[intOf];omega
  .
   have HF:Hid (Ending.returned (.bool false)=.returned (.bool r)):=Hd (by
    cases r with
    | false=>rfl
    | true =>
      obtain⟨i,hi,h⟩:=HR.out.1 rfl;have:=HQ.out i hi (by rw[<- HL.out] at hi;omega);exact(h.elim this.1 this.2).elim)
   have gf:¬ (j:Int)<(L:Int):=by omega
   have g3:=Hd (g0.out.trans (HB.out.mono g0.out.size));clear HQ;go_wp2_with fail;go_ret;exact⟨HF.out,g3.out⟩
open Go.RowKit
theorem Zug (n:Nat)(F:BF)(v:Nat)(b:Bool)(hn:n<=16)(hv:v<n)(au:Option Addr)(cu:Nat)(w:World)(h1:Zbp w au (tabB n F)) :
 Calls prog 103 #[.slice au (2^n) cu,.int .i64 v,.bool b] w fun x w'=>∃ g,x=.returned (.slice (some ⟨g,0,none⟩) (2^n) (2^n))/\OwnB w' w.heap.size (.slice (some ⟨g,0,none⟩) (2^n) (2^n)) (tabB n (cofF F v b))/\Below w.heap.size w w':=by
 have H1:=Hd h1;have gm:2^n<=1000000:=Zey hn;have gh:2^v<=1000000:=Zey (by omega);have gn:Hid (∀ i,i<=1048576->∀ W,Calls prog 49 #[.int .i64 (i:Nat),.int .i64 (v:Nat)] W fun x w'=>x=.returned (.bool (bitB i v))/\W=w'):=Hd fun i hi W=>Zlx i v hi (by omega) W
 obtain⟨G,hG⟩:∃ G:Nat->Bool,G=fun i=>cofF F v b (Zcv (Zcy i n)):=⟨_,rfl⟩
 have HT:Hid (tabB n (cofF F v b)=(List.range (2^n)).map G):=Hd (by rw[hG];rfl);have gf:Hid (∀ j,j<2^n->cofI j v b<2^n/\(tabB n F).getD (cofI j v b) false=G j):=Hd fun j hj=>⟨Zq3 hj hv,by rw[hG];exact Zv1 hj hv⟩
 have ge:Hid ((tabB n F).length=2^n):=Hd (Zar n F);rw[HT.out];obtain⟨L,hL⟩:∃ L,L=2^n:=⟨_,rfl⟩;obtain⟨p,hp⟩:∃ p,p=2^v:=⟨_,rfl⟩;have gg:Hid (∀ W,Calls prog 98 #[.int .i64 (v:Nat)] W fun x w'=>x=.returned (.int .i64 (p:Nat))/\W=w'):=Hd fun W=>by rw[hp];exact Znh v (by omega) W
 have HCI:Hid (∀ j,cofI j v b=if bitB j v && !b then j-p else if !bitB j v&&b then j+p else j):=Hd fun j=>by rw[hp];rfl
 have gp:Hid (∀ j,bitB j v=true->p<=j):=Hd fun j hj=>by
  rcases Nat.lt_or_ge j p with h|h
  . unfold bitB at hj;rw[<- hp,Nat.div_eq_of_lt h] at hj;simp at hj
  . exact h
 rw[<- hL] at gm gf ge ⊢;rw[<- hp] at gh;clear hL hp h1 hG HT
 go_enter func103,ntmps103
 go_wp2_with (at_make;refine Zc3 Zdh rfl _ _ rfl w.heap.size w _ L rfl rfl rfl (by omega) (Nat.le_refl _) (Below.refl _ _) ?_;intro g w1 g6 gd hs1 g1 gl gk;clear gk)
 go_loopw [8,9] (fun s8 s9 wr=>∃ j:Nat,j<=L/\s8=.int .i64 j/\Hid (OwnB wr w.heap.size (.slice (some ⟨g,0,none⟩) L L) (((List.range L).map G).take j++(List.replicate L false).drop j))/\Hid (Below w.heap.size w wr)) (fun s8 _ _=>L-(intOf s8).toNat)
 case atStart=>exact⟨0,by omega,rfl,Hd (by unfold OwnB;simpa [Zbj] using g6),Hd gd⟩
 case round =>
  clear g6 gd;obtain⟨j,hj,rfl,g3,g5⟩:=hrel
  by_cases ga:j<L
  .
   have gj:j<((List.range L).map G).length:=by simp;exact ga
   obtain⟨gb,g9⟩:=gf.out j ga;have g0:=HCI.out j;have g4:=gp.out j;obtain⟨kk,gc⟩:∃ kk,kk=cofI j v b:=⟨_,rfl⟩;rw[<- gc] at gb g9 g0;obtain⟨b1,of1,e1,c1⟩:=(H1.out.below g5.out).cells kk (by rw[ge.out];exact gb);rw[g9] at c1;have q0:=g3.out.cellB j (by simp;omega);have p0:=g3.out.frozen j;subst e1;obtain⟨y,hy⟩:∃ y,y=G j:=⟨_,rfl⟩;rw[<- hy] at c1;have go:Hid (((List.range L).map G)[j]=y):=Hd (by rw[hy];simp);obtain⟨t,ht⟩:∃ t,t=bitB j v:=⟨_,rfl⟩;rw[<- ht] at g0 g4;have g2:Hid (∀ W,Calls prog 49 #[.int .i64 (j:Nat),.int .i64 (v:Nat)] W fun x w'=>x=.returned (.bool t)/\W=w'):=Hd fun W=>by rw[ht];exact gn.out j (by omega) W
   have gr:(kk:Int)<(L:Int):=by omega
   have g7:Hid (OwnB (wr.setCell ⟨g,j,none⟩ (.bool y)) w.heap.size (.slice (some ⟨g,0,none⟩) L L) (((List.range L).map G).take (j+1)++(List.replicate L false).drop (j+1))):=Hd (by
    rw[<- Zdx (by simp;omega) gj go.out];exact g3.out.setB j y)
   have g8:Hid (Below w.heap.size w (wr.setCell ⟨g,j,none⟩ (.bool y))):=Hd (g5.out.setCell gl _);clear g9 hy ht gc g3 H1;cases t<;>cases b
   .
    have g1:kk=j:=by simpa using g0
    subst g1;clear g0 g4;go_wp2_with fail;refine(g2.out _).mono ?_;rintro x w2 ⟨rfl,rfl⟩;go_wp2_with fail;refine(g2.out _).mono ?_;rintro x w2 ⟨rfl,rfl⟩;go_wp2_with fail;go_roundw
    case rel=>exact⟨kk+1,by omega,by go_num,g7,g8⟩
    case measure=>simp[intOf];omega
   .
    have g1:kk=j+p:=by simpa using g0
    have gi:(j:Int)+(p:Int)=(kk:Nat):=by omega
    clear g0 g4 g1;go_wp2_with fail;refine(g2.out _).mono ?_;rintro x w2 ⟨rfl,rfl⟩;go_wp2_with fail;refine(g2.out _).mono ?_;rintro x w2 ⟨rfl,rfl⟩;go_wp2_with fail;refine(gg.out _).mono ?_;rintro x w2 ⟨rfl,rfl⟩;go_wp2_with fail;go_roundw
    case rel=>exact⟨j+1,by omega,by go_num,g7,g8⟩
    case measure=>simp[intOf];omega
   .
    have g1:kk=j-p:=by simpa using g0
    have:=g4 rfl;have gi:(j:Int)-(p:Int)=(kk:Nat):=by omega
    clear g0 g4 g1;go_wp2_with fail;refine(g2.out _).mono ?_;rintro x w2 ⟨rfl,rfl⟩;go_wp2_with fail;refine(gg.out _).mono ?_;rintro x w2 ⟨rfl,rfl⟩;go_wp2_with fail;refine(g2.out _).mono ?_;rintro x w2 ⟨rfl,rfl⟩;go_wp2_with fail;go_roundw
    case rel=>exact⟨j+1,by omega,by go_num,g7,g8⟩
    case measure=>simp[intOf];omega
   .
    have g1:kk=j:=by simpa using g0
    subst g1;clear g0 g4;go_wp2_with fail;refine(g2.out _).mono ?_;rintro x w2 ⟨rfl,rfl⟩;go_wp2_with fail;refine(g2.out _).mono ?_;rintro x w2 ⟨rfl,rfl⟩;go_wp2_with fail;go_roundw
    case rel=>exact⟨kk+1,by omega,by go_num,g7,g8⟩
    case measure=>simp[intOf];omega
  .
   obtain rfl:j=L:=by omega
   have gq:((List.range j).map G).length=j:=by simp
   have HF:Hid (OwnB wr w.heap.size (.slice (some ⟨g,0,none⟩) j j) ((List.range j).map G)):=Hd (by
    have h:=g3.out;rw[List.take_of_length_le (by omega),List.drop_of_length_le (by simp),List.append_nil] at h;exact h)
   go_wp2_with fail;go_ret;exact⟨g,rfl,HF.out,g5.out⟩
open Go.RowKit
structure Zfu (u u':Value)(w w':World):Prop where
 os:w'.os=w.os
 tape:w'.tape=w.tape
 output:w'.output=w.output
 size:w.heap.size<=w'.heap.size
 app:Zdt u u' w w'
section
variable {u u' u'' x v:Value}{w w' w'' W W':World}{n B:Nat}{F:BF}{Fs:List BF}
theorem Zfu.of_below (hb:Below w.heap.size w w'):Zfu u u w w':=⟨hb.os,hb.tape,hb.output,hb.size,⟨fun k hk _=>hb.block k hk,.inl rfl⟩⟩
theorem Zfu.trans (h:Zfu u u' w w')(h':Zfu u' u'' w' w''):Zfu u u'' w w'' :=
 ⟨h'.os.trans h.os,h'.tape.trans h.tape,h'.output.trans h.output,Nat.le_trans h.size h'.size,⟨fun k hk hne =>
  (h'.app.keep k (Nat.lt_of_lt_of_le hk h.size) (fun e=>h.app.ne (fun e2=>hne e2.symm) hk e.symm)).trans (h.app.keep k hk hne),by
  rcases h'.app.loc with e|⟨k,e,hk⟩
  .
   rcases h.app.loc with e2|⟨k,e2,hk⟩
   . exact .inl (e.trans e2)
   . exact .inr ⟨k,e.trans e2,hk⟩
  . exact .inr ⟨k,e,Nat.le_trans h.size hk⟩⟩⟩
theorem Zfu.below (h:Zfu u u' w w')(hB:B<=w.heap.size)(hu:∀ k,u.ownBlock=some k->B<=k):Below B w w' :=
 ⟨h.os,h.tape,h.output,h.size,fun k hk=>h.app.keep k (by omega) (fun e=>by have:=hu k e.symm;omega)⟩
structure TabS (n:Nat)(W:World)(u x:Value)(F:BF):Prop where
 is:Zbu W x (tabB n F)
 sep:∀ k,x.ownBlock=some k->k<W.heap.size/\u.ownBlock≠some k
theorem TabS.grow (h:TabS n W u x F)(hg:Zfu u u' W W'):TabS n W' u' x F :=
 ⟨h.is.same (fun k hk=>hg.app.keep k (h.sep k hk).1 (fun e=>(h.sep k hk).2 e.symm)),fun k hk=>⟨Nat.lt_of_lt_of_le (h.sep k hk).1 hg.size,hg.app.ne (h.sep k hk).2 (h.sep k hk).1⟩⟩
structure NodR (n:Nat)(W:World)(B:Nat)(u:Value)(Fs:List BF):Prop where
 ex:∃ rs:List Value,rs.length=Fs.length/\OwnC 34 W B u rs/\∀ i (h:i<rs.length) (h2:i<Fs.length),TabS n W u rs[i] Fs[i]
theorem NodR.below (h:NodR n W B u Fs)(hb:Below W.heap.size W W'):NodR n W' B u Fs:=by
 obtain⟨rs,h1,h2,h3⟩:=h.ex;exact⟨rs,h1,h2.same fun k hk=>hb.block k (h2.lt k hk).2,fun i q1 q2=>(h3 i q1 q2).grow (.of_below hb)⟩
theorem NodR.blk (h:NodR n W B u Fs):∀ k,u.ownBlock=some k->B<=k/\k<W.heap.size:=by
 obtain⟨rs,h1,h2,h3⟩:=h.ex;exact h2.lt
theorem Ya4 (h:DepF n F){v:Nat}(hh:Zcu n F v=false):Ind F v:=by
 have e:cofF F v false=cofF F v true:=by
  by_cases c:cofF F v false=cofF F v true
  . exact c
  . have:=(Zin h v).2 c;rw[hh] at this;cases this
 have e2:∀ b,cofF F v b=cofF F v true:=fun b=>by cases b;exact e;rfl
 intro b;rw[e2 b];funext ρ;have h1:=congrFun (e2 (ρ v)) ρ;rw[<- h1]
 show F (fun u=>if u=v then ρ v else ρ u)=F ρ
 congr 1;funext u
 by_cases c:u=v
 . rw[if_pos c,c]
 . rw[if_neg c]
theorem Yb9 (h:DepF n F){v:Nat}(hi:Ind F v):Zcu n F v=false:=by
 cases hh:Zcu n F v with
 | false=>rfl
 | true=>exact absurd ((hi false).trans (hi true).symm) ((Zin h v).1 hh)
theorem Zo3 (h:DepF n F)(hi:∀ v,v<n->Ind F v):∃ c,F=fun _=>c:=by
 have key:∀ k,k<=n->∀ ρ,F ρ=F (fun v=>if v<k then false else ρ v):=by
  intro k
  induction k with
  | zero=>intro _ ρ;simp
  | succ k ih =>
    intro hk ρ;rw[ih (by omega) ρ,<- (hi k (by omega)).at _ false];congr 1;funext v;unfold upd
    by_cases c:v=k
    . subst c;simp
    .
     by_cases c2:v<k
     . simp[c,c2,show v<k+1 by omega]
     . simp[c,c2,show ¬ v<k+1 by omega]
 refine⟨F fun _=>false,funext fun ρ=>?_⟩;rw[key n (Nat.le_refl _) ρ];exact h _ _ fun v hv=>by simp[hv]
theorem Zms (p:Nat->Bool):∀ m,(∃ i,i<m/\p i=true)->∃ q,q<m/\p q=true/\∀ j,j<q->p j=false
 | 0,h=>by obtain⟨i,hi,_⟩:=h;omega
 | m+1,h=>by
   by_cases c:∃ i,i<m/\p i=true
   . obtain⟨q,h1,h2,h3⟩:=Zms p m c;exact⟨q,by omega,h2,h3⟩
   .
    have hn:∀ j,j<m->p j=false:=fun j hj=>by
     cases e:p j with
     | false=>rfl
     | true=>exact absurd ⟨j,hj,e⟩ c
    obtain⟨i,hi,e⟩:=h;obtain rfl:i=m:=by
     rcases Nat.lt_or_ge i m with h1|h1
     . rw[hn i h1] at e;cases e
     . omega
    exact⟨i,hi,e,hn⟩
theorem Zu4 {l:List Nat}(h:∃ v∈l,Zcu n F v=true):∃ q,q<l.length/\topR n F l=(l.getD q 0:Nat)/\Zcu n F (l.getD q 0)=true/\∀ j,j<q->Zcu n F (l.getD j 0)=false:=by
 obtain⟨v,hv,hh⟩:=h;obtain⟨i,hi,rfl⟩:=List.getElem_of_mem hv;obtain⟨q,h1,h2,h3⟩:=Zms (fun q=>Zcu n F (l.getD q 0)) l.length ⟨i,hi,by simpa [List.getD,hi] using hh⟩;exact⟨q,h1,Zr1 l q h1 h2 h3,h2,h3⟩
end
open Classical in
noncomputable def belF (n:Nat)(os:List Nat):Nat->List BF->BF->List BF
 | 0,l,_=>l
 | k+1,l,F=>if (∃ c,F=fun _=>c)\/Zku l F then l else belF n os k (belF n os k (l++[F]) (cofF F (topR n F os).toNat false)) (cofF F (topR n F os).toNat true)
theorem Zkb (n:Nat)(os:List Nat):∀ (k:Nat) (l:List BF) (F:BF),(belF n os k l F).length+1<=l.length+2^k
 | 0,l,F=>by simp[belF]
 | k+1,l,F=>by
   unfold belF;have hp:0<2^k:=Nat.pow_pos (by omega);rw[Nat.pow_succ];split
   . omega
   . have h1:=Zkb n os k (l++[F]) (cofF F (topR n F os).toNat false);have h2:=Zkb n os k (belF n os k (l++[F]) (cofF F (topR n F os).toNat false)) (cofF F (topR n F os).toNat true);rw[List.length_append,List.length_singleton] at h1;omega
open Go.RowKit
def PosF (os:List Nat)(p:Nat)(F:BF):Prop:=∀ j,j<p->Ind F (os.getD j 0)
section
variable {n:Nat}{os:List Nat}{p k:Nat}{F:BF}{l:List BF}
theorem Zxq (h:DepF n F)(hp:PosF os n F)(hl:os.length=n)(hmem:∀ v,v<n->v∈os):∃ c,F=fun _=>c :=
 Zo3 h fun v hv=>by
  obtain⟨i,hi,e⟩:=List.getElem_of_mem (hmem v hv);have:=hp i (by omega)
  rwa [show os.getD i 0=v by simp[List.getD,hi,e]] at this
theorem Zzy (h:DepF n F)(hp:PosF os p F)(hlt:∀ v∈os,v<n)(hmem:∀ v,v<n->v∈os)(hnc:¬ ∃ c,F=fun _=>c) :
 ∃ v:Nat,topR n F os=(v:Nat)/\v<n/\∀ b,PosF os (p+1) (cofF F v b)/\DepF n (cofF F v b):=by
 have g1:∃ v∈os,Zcu n F v=true:=by
  by_cases c:∃ v∈os,Zcu n F v=true
  . exact c
  .
   exact absurd (Zo3 h fun v hv=>Ya4 h (by
    cases e:Zcu n F v with
    | false=>rfl
    | true=>exact absurd ⟨v,hmem v hv,e⟩ c)) hnc
 obtain⟨q,hq,h1,h2,h3⟩:=Zu4 g1;have g0:os.getD q 0∈os:=by simp[List.getD,hq]
 refine⟨os.getD q 0,h1,hlt _ g0,fun b=>⟨fun j hj=>?_,Zif h _ b⟩⟩;have g2:p<=q:=by
  rcases Nat.lt_or_ge q p with c|c
  . have:=Yb9 h (hp q c);rw[h2] at this;cases this
  . exact c
 rcases Nat.lt_or_ge j q with c|c
 . exact(Ya4 h (h3 j c)).cof _ b
 .
  obtain rfl:j=q:=by omega
  exact fun c=>Zky F _ b c
theorem Zie (h:(∃ c,F=fun _=>c)\/Zku l F):belF n os k l F=l:=by
 cases k with
 | zero=>rfl
 | succ k=>unfold belF;rw[if_pos h]
theorem Zvn {v:Nat}(h:¬ ((∃ c,F=fun _=>c)\/Zku l F))(hv:topR n F os=(v:Nat)):belF n os (k+1) l F=belF n os k (belF n os k (l++[F]) (cofF F v false)) (cofF F v true):=by
 rw[belF,if_neg h,hv];rfl
theorem Zka (n:Nat)(os:List Nat):∀ (k:Nat) (l:List BF) (F:BF),(∀ G∈l,DepF n G)->DepF n F->∀ G∈belF n os k l F,DepF n G
 | 0,l,F,hl,_=>hl
 | k+1,l,F,hl,h=>by
   unfold belF;split
   . exact hl
   .
    exact Zka n os k _ _ (Zka n os k _ _ (fun G hG=>by
     rcases List.mem_append.1 hG with h1|h1
     . exact hl G h1
     . simp at h1;subst h1;exact h) (Zif h _ _)) (Zif h _ _)
theorem NodR.tabs {W:World}{B:Nat}{u:Value}{Fs:List BF}(h:NodR n W B u Fs)(hl:Fs.length<=1000):∃ a c,u=.slice a Fs.length c/\Zmi n W a Fs:=by
 obtain⟨rs,h1,h2,h3⟩:=h.ex;rcases Nat.eq_zero_or_pos rs.length with h0|h0
 . obtain⟨a,c,e,_⟩:=h2.slice;exact⟨a,c,by rw[e,h1],⟨hl,fun i hi=>by omega⟩⟩
 . obtain⟨g,c,rfl,_,_⟩:=h2.shape h0;refine⟨_,c,by rw[h1],⟨hl,fun i hi=>⟨g,0,rs[i]'(by omega),rfl,?_,TabA.is (h3 i (by omega) hi).is⟩⟩⟩;have:=h2.cell i (by omega);rw[Nat.zero_add,this];simp
theorem NodR.app {W W':World}{B:Nat}{u u' x:Value}{Fs:List BF}{rs:List Value}(h1:rs.length=Fs.length)(h3:∀ i (h:i<rs.length) (h2:i<Fs.length),TabS n W u rs[i] Fs[i])(hx:TabS n W u x F)(ho:OwnC 34 W' B u' (rs++[x]))(hg:Zfu u u' W W'):NodR n W' B u' (Fs++[F]) :=
 ⟨rs++[x],by simp[h1],ho,fun i q1 q2=>by
  rcases Nat.lt_or_ge i rs.length with c|c
  . rw[List.getElem_append_left c,List.getElem_append_left (by omega)];exact(h3 i c (by omega)).grow hg
  .
   have e:i=rs.length:=by simp at q1;omega
   subst e;rw[List.getElem_append_right (by omega),List.getElem_append_right (by omega)];simpa using hx.grow hg⟩
end
theorem Zqb {n:Nat}(hn:n<=9){os:List Nat}(hlen:os.length=n)(hlt:∀ v∈os,v<n)(hmem:∀ v,v<n->v∈os){ao:Option Addr}{co:Nat}(B:Nat)(hab:∀ a,ao=some a->a.block<B) :
 ∀ (k p:Nat),p+k=n->∀ (w:World) (u x:Value) (Fs:List BF) (F:BF),B<=w.heap.size->NodR n w B u Fs->TabS n w u x F->(∀ G∈Fs,DepF n G)->DepF n F->PosF os p F->Fs.length+2^k<=1000->Zay w ao (os.map Int.ofNat) ->
  Calls prog 52 #[u,x,.slice ao os.length co] w fun e w'=>∃ u',e=.returned u'/\NodR n w' B u' (belF n os k Fs F)/\Zfu u u' w w':=by
 intro k
 induction k with
 | zero =>
   intro p gc w u x Fs F hB hu hx g7 hd hp hL g6;have hc:=Zxq hd (show PosF os n F from (show p=n by omega) ▸ hp) hlen hmem;have HC:=Hd (Zgu (TabA.is hx.is) hd (r:=true) (by simp[hc]));have HU:=Hd hu;rw[Zie (.inl hc)];clear hu hx g7 hd hp g6 hc gc;obtain⟨a,c,e,_⟩:=HU.out.tabs (by omega);subst e
   go_enter func52,ntmps52
   go_wp2_with fail;refine HC.out.mono ?_;rintro e w1 ⟨rfl,g0⟩;have HF:Hid (NodR n w1 B (.slice a Fs.length c) Fs/\Zfu (.slice a Fs.length c) (.slice a Fs.length c) w w1):=Hd ⟨HU.out.below g0,.of_below g0⟩;clear g0;go_wp2_with fail;go_ret;exact⟨_,rfl,HF.out.1,HF.out.2⟩
 | succ k ih =>
   intro p gc w u x Fs F hB hu hx g7 hd hp hL g6;have gi:0<2^k:=Nat.pow_pos (by omega);rw[Nat.pow_succ] at hL;have gD:Fs.length<=999:=by omega
   obtain⟨r1,g9⟩:=Zg1 (∃ c,F=fun _=>c);obtain⟨r2,g8⟩:=Zg1 (Zku Fs F);obtain⟨ax,cx,gN,gv,gu⟩:=hx.is;rw[Zar] at gN;obtain⟨au,cu,gP,gk⟩:=hu.tabs (by omega);have HC:=Hd (Zgu (TabA.is hx.is) hd g9);have HA:Hid (∀ W,Below w.heap.size w W->Calls prog 101 #[u,x] W fun e w'=>e=.returned (.bool r2)/\Below W.heap.size W w'):=Hd fun W hb=>by
    have:=Zqa (w:=W) (n:=n) (by omega) (c:=cu) (gk.below hb) ((TabA.is hx.is).below hb) hd g7 g8;rw[<- gP] at this;exact this
   have g5:Hid (r1=true\/r2=true->belF n os (k+1) Fs F=Fs):=Hd fun h=>Zie (h.imp g9.1 g8.1)
   have HU:=Hd hu;have HX:=Hd hx;subst gP;subst gN;cases r1 with
   | true =>
     rw[g5.out (.inl rfl)];clear hu hx g7 hd hp g6 g9 g8 gv gu gk HA g5 hL ih gc gi gD
     go_enter func52,ntmps52
     go_wp2_with fail;refine HC.out.mono ?_;rintro e w1 ⟨rfl,g0⟩;have HF:Hid (NodR n w1 B (.slice au Fs.length cu) Fs/\Zfu (.slice au Fs.length cu) (.slice au Fs.length cu) w w1):=Hd ⟨HU.out.below g0,.of_below g0⟩;clear g0;go_wp2_with fail;go_ret;exact⟨_,rfl,HF.out.1,HF.out.2⟩
   | false =>
     cases r2 with
     | true =>
       rw[g5.out (.inr rfl)];clear hu hx g7 hd hp g6 g9 g8 gv gu gk g5 hL ih gc gi gD
       go_enter func52,ntmps52
       go_wp2_with fail;refine HC.out.mono ?_;rintro e w1 ⟨rfl,g0⟩;have gh:=Hd (HA.out w1 g0);have ga:=Hd g0;clear g0 HA;go_wp2_with fail;refine gh.out.mono ?_;rintro e w2 ⟨rfl,gd⟩;have HB2:=Hd (ga.out.trans (gd.mono ga.out.size));have HF:Hid (NodR n w2 B (.slice au Fs.length cu) Fs/\Zfu (.slice au Fs.length cu) (.slice au Fs.length cu) w w2):=Hd ⟨HU.out.below HB2.out,.of_below HB2.out⟩;clear gd gh HC;go_wp2_with fail;go_ret;exact⟨_,rfl,HF.out.1,HF.out.2⟩
     | false =>
       have gy:¬ ((∃ c,F=fun _=>c)\/Zku Fs F):=fun h=>by
        rcases h with h|h
        . have:=g9.2 h;cases this
        . have:=g8.2 h;cases this
       obtain⟨v,gw,gO,gb⟩:=Zzy hd hp hlt hmem fun h=>gy (.inl h)
       rw[Zvn gy gw];obtain⟨rs,gR,gx,gQ⟩:=hu.ex;have h8:Hid (∀ W,Zbp W ax (tabB n F)->Zay W ao (os.map Int.ofNat)->Calls prog 102 #[.slice ax (2^n) cx,.slice ao os.length co] W fun y w'=>y=.returned (.int .i64 (v:Nat))/\Below W.heap.size W w'):=Hd fun W h1 h2=>by
        have:=Zul n F os (by omega) hlt (by omega) ax ao cx co W h1 h2;rw[gw] at this;exact this
       have gL:Hid (∀ W (b:Bool),Zbp W ax (tabB n F)->Calls prog 103 #[.slice ax (2^n) cx,.int .i64 (v:Nat),.bool b] W fun y w'=>∃ g,y=.returned (.slice (some ⟨g,0,none⟩) (2^n) (2^n))/\OwnB w' W.heap.size (.slice (some ⟨g,0,none⟩) (2^n) (2^n)) (tabB n (cofF F v b))/\Below W.heap.size W w'):=Hd fun W b h1=>Zug n F v b (by omega) gO ax cx W h1
       have gM:Hid (∀ W u',TabS n W u' (.slice ax (2^n) cx) F->Zbp W ax (tabB n F)):=Hd fun W u' h=>by
        obtain⟨a',c',e,h1,_⟩:=h.is;injection e with e1 _ _
        rw[e1];exact h1
       obtain⟨F0,gf⟩:∃ F0,F0=cofF F v false:=⟨_,rfl⟩;obtain⟨F1,ge⟩:∃ F1,F1=cofF F v true:=⟨_,rfl⟩;have hw:=Hd gf;have hv:=Hd ge;rw[<- gf,<- ge];have gB:DepF n F0:=by rw[gf];exact(gb false).2
       have gX:DepF n F1:=by rw[ge];exact(gb true).2
       have gj:∀ G∈Fs++[F],DepF n G:=fun G hG=>by
        rcases List.mem_append.1 hG with h1|h1
        . exact g7 G h1
        . simp at h1;subst h1;exact hd
       have gA:=Zka n os k (Fs++[F]) F0 gj gB;have go:=Zkb n os k (Fs++[F]) F0;rw[List.length_append,List.length_singleton] at go;have hi:Hid (∀ W u' x',B<=W.heap.size->NodR n W B u' (Fs++[F])->TabS n W u' x' F0->Zay W ao (os.map Int.ofNat)->Calls prog 52 #[u',x',.slice ao os.length co] W fun e w'=>∃ u'',e=.returned u''/\NodR n w' B u'' (belF n os k (Fs++[F]) F0)/\Zfu u' u'' W w') :=
        Hd fun W u' x' h1 h2 h3 h4=>ih (p+1) (by omega) W u' x' (Fs++[F]) F0 h1 h2 h3 gj gB (by rw[gf];exact(gb false).1) (by rw[List.length_append,List.length_singleton];omega) h4
       have hh:Hid (∀ W u' x',B<=W.heap.size->NodR n W B u' (belF n os k (Fs++[F]) F0)->TabS n W u' x' F1->Zay W ao (os.map Int.ofNat)->Calls prog 52 #[u',x',.slice ao os.length co] W fun e w'=>∃ u'',e=.returned u''/\NodR n w' B u'' (belF n os k (belF n os k (Fs++[F]) F0) F1)/\Zfu u' u'' W w') :=
        Hd fun W u' x' h1 h2 h3 h4=>ih (p+1) (by omega) W u' x' _ F1 h1 h2 h3 gA gX (by rw[ge];exact(gb true).1) (by omega) h4
       have hy:=Hd g6;have gJ:Hid (∀ W u',Zfu (.slice au Fs.length cu) u' w W->Zay W ao (os.map Int.ofNat)):=Hd fun W u' hg=>g6.keep hg.app.keep fun a ha e=>by
        have h1:=(hu.blk a.block e.symm).1;have h2:=hab a ha;omega
       have h7:=Hd gQ;have ht:=Hd gR;have hr:rs.length<=999:=by omega
       have gG:=Hd gx;have gK:=Hd hB;clear hu hx g7 hd hp g6 g9 g8 gv gu gk g5 hL ih gc gi gD gy gb gw gO gf ge gB gX gj gA go gQ gR gx hlen hlt hmem hab
       go_enter func52,ntmps52
       go_wp2_with fail;refine HC.out.mono ?_;rintro e w1 ⟨rfl,g0⟩;have gh:=Hd (HA.out w1 g0);have ga:=Hd g0;clear g0 HA;go_wp2_with fail;refine gh.out.mono ?_;rintro e w2 ⟨rfl,gd⟩;have HB2:=Hd (ga.out.trans (gd.mono ga.out.size));have gr:=Hd (gG.out.below HB2.out);have gY:B<=w2.heap.size:=Nat.le_trans gK.out HB2.out.size;clear gd gh HC ga;go_upto_region 4 with (at_builtin;refine Zck Zwe _ rfl _ _ rfl B _ rs (.slice ax (2^n) cx) rfl rfl rfl rfl rfl (by exact gr.out) (by omega) gY ?_;intro u3 w3 gl g1 g2 g3 g4 gU)
       have gg:Hid (Zfu (.slice au Fs.length cu) u3 w w3):=Hd ((Zfu.of_below HB2.out).trans ⟨g1,g2,g3,g4,gU⟩);have hf:Hid (NodR n w3 B u3 (Fs++[F])):=Hd (NodR.app ht.out h7.out HX.out gl gg.out);have gF:=Hd (HX.out.grow gg.out);have HT:=Hd (h8.out w3 (gM.out _ _ gF.out) (gJ.out _ _ gg.out));clear gl g1 g2 g3 g4 gU gr HB2 h8 gG h7 gY HU hr;go_wp2_with fail;refine HT.out.mono ?_;rintro y w4 ⟨rfl,gq⟩;have hk:=Hd (gg.out.trans (.of_below gq));have gI:=Hd (hf.out.below gq);have gE:=Hd (gF.out.grow (.of_below gq));have ho:=Hd (gL.out w4 false (gM.out _ _ gE.out));clear gq HT gg hf gF;go_wp2_with fail;refine ho.out.mono ?_;rintro y w5 ⟨g,rfl,gn,gp⟩;have gt:=Hd (hk.out.trans (.of_below gp));have he:=Hd (gI.out.below gp);have h6:=Hd (gE.out.grow (.of_below gp))
       have h0:Hid (TabS n w5 u3 (.slice (some ⟨g,0,none⟩) (2^n) (2^n)) F0):=Hd ⟨by rw[hw.out];exact OwnC.boolsIs gn (by rw[Zar];exact Zey (by omega)),fun q hq=>⟨(gn.lt q hq).2,fun e=>by
        have h1:=(gn.lt q hq).1;have h2:=(gI.out.blk q e).2;omega⟩⟩
       have HR:=Hd (hi.out w5 u3 _ (Nat.le_trans gK.out gt.out.size) he.out h0.out (gJ.out _ _ gt.out));clear gn gp ho hk gI gE hi h0 he;go_wp2_with fail;refine HR.out.mono ?_;rintro y w6 ⟨u6,rfl,gT,gz⟩;have hj:=Hd (gt.out.trans gz);have gH:=Hd gT;have h5:=Hd (h6.out.grow gz);have hm:=Hd (gL.out w6 true (gM.out _ _ h5.out));clear gT gz HR gt h6 gL;go_wp2_with fail;refine hm.out.mono ?_;rintro y w7 ⟨g,rfl,gm,gC⟩;have gs:=Hd (hj.out.trans (.of_below gC));have h9:=Hd (gH.out.below gC)
       have gZ:Hid (TabS n w7 u6 (.slice (some ⟨g,0,none⟩) (2^n) (2^n)) F1):=Hd ⟨by rw[hv.out];exact OwnC.boolsIs gm (by rw[Zar];exact Zey (by omega)),fun q hq=>⟨(gm.lt q hq).2,fun e=>by
        have h1:=(gm.lt q hq).1;have h2:=(gH.out.blk q e).2;omega⟩⟩
       have HR:=Hd (hh.out w7 u6 _ (Nat.le_trans gK.out gs.out.size) h9.out gZ.out (gJ.out _ _ gs.out));clear gm gC hm hj gH h5 hh gZ h9;go_wp2_with fail;refine HR.out.mono ?_;rintro y w8 ⟨u8,rfl,gS,gV⟩;have HF:=Hd (show _/\_ from ⟨gS,gs.out.trans gV⟩);clear gS gV HR gs;go_wp2_with fail;go_ret;exact⟨_,rfl,HF.out.1,HF.out.2⟩
open Go.RowKit
noncomputable def nodesF (n:Nat)(os:List Nat)(Gs:List BF):List BF:=Gs.foldl (fun l G=>belF n os n l G) []
section
variable {n:Nat}{os:List Nat}{Gs:List BF}{F:BF}{w W:World}{u x:Value}
theorem Zh3 {i:Nat}(hi:i<Gs.length):nodesF n os (Gs.take (i+1))=belF n os n (nodesF n os (Gs.take i)) Gs[i]:=by
 unfold nodesF;rw[List.take_succ_eq_append_getElem hi,List.foldl_append];rfl
theorem Zmz:∀ i,i<=Gs.length->(nodesF n os (Gs.take i)).length<=i*2^n
 | 0,_=>by simp[nodesF]
 | i+1,hi=>by
   have h1:=Zmz i (by omega);rw[Zh3 (by omega)];have h2:=Zkb n os n (nodesF n os (Gs.take i)) (Gs[i]'(by omega));rw[Nat.succ_mul];omega
theorem Zmy (hd:∀ G∈Gs,DepF n G):∀ i,i<=Gs.length->∀ G∈nodesF n os (Gs.take i),DepF n G
 | 0,_,G,hG=>by simp[nodesF] at hG
 | i+1,hi,G,hG=>by
   rw[Zh3 (by omega)] at hG;exact Zka n os n _ _ (Zmy hd i (by omega)) (hd _ (List.getElem_mem _)) G hG
theorem Yah (h:TabA n w x F)(hb:Below w.heap.size w W)(hu:∀ k,u.ownBlock=some k->w.heap.size<=k):TabS n W u x F:=by
 obtain⟨a,c,rfl,h1⟩:=h;obtain⟨g,off,rfl,hc⟩:=h1.cells 0 (by rw[Zar];exact Nat.pow_pos (by omega));have hg:g<w.heap.size:=Zab hc;refine⟨⟨_,c,by rw[Zar],h1.below hb,by simp⟩,fun k hk=>?_⟩;cases hk;exact⟨Nat.lt_of_lt_of_le hg hb.size,fun e=>by have:=hu g e;omega⟩
end
theorem Zqe {n:Nat}(hn:n<=9){os:List Nat}(hlen:os.length=n)(hlt:∀ v∈os,v<n)(hmem:∀ v,v<n->v∈os){ao fa:Option Addr}{co fc:Nat}{Gs:List BF}{w:World}(hfs:Zmi n w fa Gs)(hd:∀ G∈Gs,DepF n G)(hos:Zay w ao (os.map Int.ofNat))(hab:∀ a,ao=some a->a.block<w.heap.size)(hL:Gs.length*2^n+2^n<=1000) :
 Calls prog 16 #[.slice fa Gs.length fc,.slice ao os.length co] w fun e w'=>e=.returned (.int .i64 ((nodesF n os Gs).length:Nat))/\Below w.heap.size w w':=by
 obtain⟨w1,g0⟩:∃ w1,w1=w.alloc (.cells #[] 34):=⟨_,rfl⟩;have HW1:Hid (_=w1):=Hd g0.symm;have g3:Hid (Below w.heap.size w w1):=Hd (by rw[g0];exact Zad _ _);have g2:Hid (NodR n w1 w.heap.size (.slice (some ⟨w.heap.size,0,none⟩) 0 0) (nodesF n os (Gs.take 0))):=Hd ⟨[],by simp[nodesF],by rw[g0];exact Zem _ _ _ (Nat.le_refl _),fun i h=>by simp at h⟩;have g9:Hid (∀ W u x i,(hi:i<Gs.length)->Below w.heap.size w W->NodR n W w.heap.size u (nodesF n os (Gs.take i))->TabA n w x Gs[i]->Calls prog 52 #[u,x,.slice ao os.length co] W fun e w'=>∃ u',e=.returned u'/\NodR n w' w.heap.size u' (nodesF n os (Gs.take (i+1)))/\Below w.heap.size w w'):=Hd fun W u x i hi hb hu hx=>by
  have h1:=Zmz (n:=n) (os:=os) (Gs:=Gs) i (by omega);have h2:i*2^n<=Gs.length*2^n:=Nat.mul_le_mul_right _ (by omega);refine(Zqb hn hlen hlt hmem (co:=co) w.heap.size hab n 0 (by omega) W u x _ _ hb.size hu (Yah hx hb fun k hk=>(hu.blk k hk).1) (Zmy hd i (by omega)) (hd _ (List.getElem_mem _)) (fun j hj=>by omega) (by omega) (hos.below hb)).mono ?_;rintro e w' ⟨u',rfl,h3,h4⟩;rw[Zh3 hi];exact⟨u',rfl,h3,hb.trans (h4.below hb.size fun k hk=>(hu.blk k hk).1)⟩
 have HH:=Hd hfs;have g5:=hfs.len;obtain⟨L,g1⟩:∃ L,L=Gs.length:=⟨_,rfl⟩;have HL:=Hd g1;obtain⟨N,hN⟩:∃ N,N=(nodesF n os Gs).length:=⟨_,rfl⟩;have HN:=Hd hN;have g7:Hid (nodesF n os (Gs.take L)=nodesF n os Gs):=Hd (by rw[g1,List.take_length]);rw[<- g1] at g5 ⊢;rw[<- hN];clear hfs hd hos hab hL hlen hlt hmem g1 hN g0
 go_enter func16,ntmps16
 go_upto_region 2 with fail;rw[HW1.out];go_wp2_with fail
 go_loopw [5,6] (fun s5 s6 wr=>∃ (i:Nat) (u:Value),i<=L/\s6=.int .i64 i/\s5=u/\Hid (NodR n wr w.heap.size u (nodesF n os (Gs.take i)))/\Hid (Below w.heap.size w wr)) (fun _ s6 _=>L-(intOf s6).toNat)
 case atStart=>exact⟨0,_,Nat.zero_le _,rfl,rfl,g2,g3⟩
 case round =>
  obtain⟨i,u,hi,rfl,rfl,HR,HB⟩:=hrel
  by_cases hlt:i<L
  .
   have g4:i<Gs.length:=by rw[<- HL.out];exact hlt
   obtain⟨b1,of1,v,rfl,c1,ht⟩:=HH.out.cells i g4;have g6:(i:Int)<(L:Int):=by omega
   have HC:=Hd (g9.out wr _ v i g4 HB.out HR.out ht);have c2:=(HB.out.cell (p:=⟨b1,of1+i,none⟩) (Zab c1)).trans c1;clear ht c1 HR HB g2 g3;go_wp2_with fail;refine HC.out.mono ?_;rintro e w2 ⟨u',rfl,h3,h4⟩;have g8:=Hd h3;have HB2:=Hd h4;clear h3 h4 HC c2;go_wp2_with fail;go_roundw
   case rel=>exact⟨i+1,_,by omega,by go_num,rfl,g8,HB2⟩
   case measure=>simp[intOf];omega
  .
   obtain rfl:i=L:=by omega
   have g6:¬ (i:Int)<(i:Int):=by omega
   have hr:=HR.out;rw[g7.out] at hr;obtain⟨rs,q1,q2,_⟩:=hr.ex;obtain⟨a,c,e,_⟩:=q2.slice;rw[q1,<- HN.out] at e;subst e;clear q1 q2 hr HR g2 g3;go_wp2_with fail;go_ret;exact⟨rfl,HB.out⟩
open Go.RowKit
def Zff (d:Zae):Nat->List Nat->Nat->List Nat
 | 0,met,_=>met
 | k+1,met,f=>match Zaa d (f/2) with
   | none=>met
   | some b=>if f/2∈met then met else Zff d k (Zff d k (met++[f/2]) (cofs d f b.v).1) (cofs d f b.v).2
structure RelN (d:Zae)(V:Nat->BF)(met:List Nat)(l:List BF):Prop where
 len:met.length=l.length
 node:∀ i∈met,∃ b,Zaa d i=some b
 fn:∀ i (h:i<met.length) (h2:i<l.length),l[i]=V met[i]\/l[i]=notF (V met[i])
section
variable {d:Zae}{V:Nat->BF}
theorem Zxh (F:BF):notF (notF F)=F:=funext fun ρ=>by show (!(!F ρ))=F ρ;simp
theorem Yda (f:Nat):ef V f=V (f/2)\/ef V f=notF (V (f/2)):=by
 rcases(show f%2=0\/f%2=1 by omega) with h|h
 . exact .inl (funext fun ρ=>by simp[ef,h])
 . exact .inr (funext fun ρ=>by simp[ef,h,notF])
theorem Zo2 (h:Zal d V)(h0:Zaa d 0=none){f:Nat}(hf:okE (Zaa d) f):(∃ c,ef V f=fun _=>c)↔Zaa d (f/2)=none:=by
 constructor
 .
  rintro⟨c,hc⟩;have:f=0\/f=1:=by
   cases c with
   | true=>exact .inl ((h.dag.canon_iff hf (.inl rfl)).1 (by rw[hc,h.dag.ef0]))
   | false=>exact .inr ((h.dag.canon_iff hf (.inl rfl)).1 (by rw[hc,h.dag.ef1]))
  rcases this with rfl|rfl<;>exact h0
 .
  intro hn;rcases hf with h1|⟨b,hb⟩
  . rw[Zij h h1];exact⟨_,rfl⟩
  . rw[hn] at hb;cases hb
theorem Zou (h:Zal d V){f:Nat}(hf:okE (Zaa d) f){met:List Nat}{l:List BF}(hr:RelN d V met l):Zku l (ef V f)↔f/2∈met:=by
 constructor
 .
  rintro⟨i,hi,he⟩;have hm:i<met.length:=by rw[hr.len];exact hi
  obtain⟨b,hb⟩:=hr.node _ (List.getElem_mem hm);have hE:∀ c,c<2->okE (Zaa d) (2*met[i]+c):=fun c hc=>.inr ⟨b,by rw[show (2*met[i]+c)/2=met[i] by omega];exact hb⟩
  have g1:ef V (2*met[i]+0)=V met[i]:=funext fun ρ=>by unfold ef;rw[show (2*met[i]+0)/2=met[i] by omega,show (2*met[i]+0)%2=0 by omega];simp
  have g0:ef V (2*met[i]+1)=notF (V met[i]):=funext fun ρ=>by unfold ef notF;rw[show (2*met[i]+1)/2=met[i] by omega,show (2*met[i]+1)%2=1 by omega];simp
  have hn:=Zra V f;have key:∀ e,okE (Zaa d) e->e/2=met[i]->(ef V e=ef V f\/ef V e=ef V (enot f))->f/2=met[i]:=fun e he h2 h3=>by
   rcases h3 with h3|h3
   . rw[<- (h.dag.canon_iff he hf).1 h3];exact h2
   . have:=(h.dag.canon_iff he (Zn0 hf)).1 h3;rw[this,Zfk] at h2;exact h2
  have:f/2=met[i]:=by
   rcases hr.fn i hm hi with e|e
   . exact key _ (hE 0 (by omega)) (by omega) (by rw[g1,<- e,hn];exact he)
   . exact key _ (hE 1 (by omega)) (by omega) (by rw[g0,<- e,hn];exact he)
  rw[this];exact List.getElem_mem hm
 .
  intro hm;obtain⟨i,hi,he⟩:=List.getElem_of_mem hm;refine⟨i,by rw[<- hr.len];exact hi,?_⟩;have h1:=hr.fn i hi (by rw[<- hr.len];exact hi);rw[he] at h1;rcases Yda (V:=V) f with e|e<;>rcases h1 with e2|e2<;>rw[e,e2]
  . exact .inl rfl
  . exact .inr rfl
  . exact .inr (Zxh _).symm
  . exact .inl rfl
theorem Zji (h:Zal d V)(h0:Zaa d 0=none):∀ (k:Nat) (met:List Nat) (l:List BF) (f:Nat),okE (Zaa d) f->RelN d V met l->RelN d V (Zff d k met f) (belF d.vars.length d.vars k l (ef V f))
 | 0,met,l,f,_,hr=>hr
 | k+1,met,l,f,hf,hr=>by
   cases hb:Zaa d (f/2) with
   | none =>
     rw[Zie (.inl ((Zo2 h h0 hf).2 hb))];unfold Zff;rw[hb];exact hr
   | some b =>
     unfold Zff;rw[hb]
     show RelN d V (if f/2∈met then met else _) _
     by_cases hm:f/2∈met
     . rw[if_pos hm,Zie (.inr ((Zou h hf hr).2 hm))];exact hr
     .
      have hnc:¬ ∃ c,ef V f=fun _=>c:=fun e=>by rw[(Zo2 h h0 hf).1 e] at hb;cases hb
      obtain⟨htop,hbv⟩:=Yak h hb;rw[if_neg hm,Zvn (fun e=>e.elim hnc fun e=>hm ((Zou h hf hr).1 e)) htop];have hl:levN d b.v<=lvE d.vars.length (levN d) (Zaa d) f:=by unfold lvE;rw[hb];exact Nat.le_refl _
      obtain⟨q1,q2,_⟩:=Zdl h hf hbv hl;obtain⟨e1,e2⟩:=Znj h hf hbv hl;rw[<- e1,<- e2];refine Zji h h0 k _ _ _ q2 (Zji h h0 k _ _ _ q1 ⟨by simp[hr.len],fun i hi=>?_,fun i h1 h2=>?_⟩)
      .
       rcases List.mem_append.1 hi with c|c
       . exact hr.node i c
       . simp at c;subst c;exact⟨b,hb⟩
      .
       rcases Nat.lt_or_ge i met.length with c|c
       . rw[List.getElem_append_left c,List.getElem_append_left (by rw[<- hr.len];exact c)];exact hr.fn i c _
       .
        have e:i=met.length:=by simp at h1;omega
        subst e;rw[List.getElem_append_right (Nat.le_refl _),List.getElem_append_right (by rw[hr.len];exact Nat.le_refl _)];simpa using Yda (V:=V) f
end
open Go.RowKit
theorem Ydm:Znc prog 3 (Value.int .i64):=Zpr underlying3
def mtL (met:List Nat):List (Int×Value):=met.map fun i:Nat=>((i:Int),(.bool true:Value))
theorem Zxd (met:List Nat)(f:Nat):getL (mtL met) (f:Int)=if f∈met then some (.bool true) else none:=by
 by_cases h:f∈met
 .
  rw[if_pos h];unfold getL;have:∀ (l:List Nat) (i:Nat),f∈l->(Zdd (f:Int) (mtL l) i).map (·.2)=some (.bool true):=by
   intro l
   induction l with
   | nil=>intro i h;simp at h
   | cons x r ih =>
     intro i h
     show (if (x:Int)=(f:Int) then some (i,(.bool true:Value)) else Zdd (f:Int) (mtL r) (i+1)).map (·.2)=_
     by_cases e:(x:Int)=(f:Int)
     . rw[if_pos e];rfl
     .
      rw[if_neg e];refine ih _ ?_;rcases List.mem_cons.1 h with h|h
      . exact absurd (by rw[h]) e
      . exact h
  exact this met 0 h
 .
  rw[if_neg h];refine Zdw.2 fun p hp=>?_
  obtain⟨i,hi,rfl⟩:=List.mem_map.1 hp;intro e;have e2:i=f:=Int.ofNat.inj e;rw[e2] at hi;exact h hi
theorem Zt7 {w:World}{b:Nat}{met:List Nat}(h:Zci w b (Value.int .i64) (mtL met))(f:Nat) :
 (Instr.lookup 134 (.map (some b)) (.int .i64 (f:Nat)) false).run prog w=.ok (.bool (decide (f∈met))) w:=by
 have:=h.lookup Ydm underlying134 zeroValue4 (f:Int) false;rw[Zxd] at this
 by_cases c:f∈met
 . rw[if_pos c] at this;simpa [c] using this
 . rw[if_neg c] at this;simpa [c] using this
theorem Zt8 {w:World}{b:Nat}{met:List Nat}(h:Zci w b (Value.int .i64) (mtL met)){f:Nat}(hf:f∉met) :
 ∃ w',(Instr.mapUpdate 134 (.map (some b)) (.int .i64 (f:Nat)) (.bool true)).run prog w=.ok () w'/\Zci w' b (Value.int .i64) (mtL (met++[f]))/\w.grownBy w' (some b):=by
 obtain⟨w',h1,h2,h3⟩:=h.update Ydm underlying134 (f:Int) (.bool true);refine⟨w',h1,?_,h3⟩;have e:putL (f:Int) (.bool true) (mtL met)=mtL (met++[f]):=by
  have hg:=Zxd met f;rw[if_neg hf] at hg;unfold getL at hg;unfold putL;cases hc:Zdd (f:Int) (mtL met) 0 with
  | none=>simp[mtL]
  | some q=>rw[hc] at hg;simp at hg
 rw[<- e];exact h2
open Go.RowKit
theorem Zjr (args:Array Value)(w:World):(callFunc 93 args).run prog w=.ok (.enter 93 args) w:=enters_of func93 (by kernel_rfl) rfl args w
theorem Zxi {P:Program}{S:World->Prop}{Q:Exit->Act->World->Prop}{R:List PanicEntry->World->Prop}{i:Nat}{pl:List Nat}{l:List Oper}{f:Nat}{L:Array Bool}{a:Act}{w w':World}{o:Oper}{t:TypeId}{m x y:Operand}(hi:l[i]?=some o)(hr:decide (Region.ready .any l.toArray L=[i])=true)
 (hg:Region.wanted o (yielded l.toArray a.tmps)=true) (ho:o.op=.mapUpdate t m x y) (hs:(Instr.mapUpdate t (a.eval m) (a.eval x) (a.eval y)).run P w=.ok () w') (hS:S w')
 (h:Nx pl P l Q R S f (L.setIfInBounds i true) (a.put o.dst undef) w'):Nx (i::pl) P l Q R S (f+1) L a w:=by
 refine Zcc [i] (by rw[Bool.and_eq_true];exact⟨hr,rfl⟩) fun j g1 _ o2 g0=>?_
 rw[List.mem_singleton] at g1;subst g1;rw[hi] at g0;cases g0;refine⟨hg,?_⟩;unfold Oper.wp;simp only[execOp,ho,Sem.run_bind,hs,Result.andThen_ok];exact⟨hS,h⟩
structure SzC where
 bm:Nat
 bx:Nat
 bd:Nat
 mt:Nat
 xb:Nat
def SzC.caps (c:SzC):Array Value:=#[.pointer (some ⟨c.bm,0,none⟩),.pointer (some ⟨c.bx,0,none⟩),.pointer (some ⟨c.bd,0,none⟩)]
structure SzS (F:Phi)(c:SzC)(mb:Nat)(o:Own)(m:ManD)(V:Nat->BF)(met:List Nat)(W:World):Prop where
 is:Zcg F o W mb m
 lt:Zaj o W
 ok:Zal m.d V
 x:Zce o W c.xb mb
 bm:W.cell? ⟨c.bm,0,none⟩=some (.map (some c.mt))
 bx:W.cell? ⟨c.bx,0,none⟩=some (.pointer (some ⟨c.xb,0,none⟩))
 bd:W.cell? ⟨c.bd,0,none⟩=some (.func (.func 93) #[] c.caps)
 map:Zci W c.mt (Value.int .i64) (mtL met)
 own:∀ q,(q=c.bm\/q=c.bx\/q=c.bd\/q=c.mt)->o q=none
 ne:c.mt≠c.bm/\c.mt≠c.bx/\c.mt≠c.bd/\c.mt≠c.xb
section
variable {F:Phi}{c:SzC}{mb:Nat}{o:Own}{m:ManD}{V:Nat->BF}{met met':List Nat}{W W':World}
theorem Zcg.other {C:Nat->Prop}(h:Zcg F o W mb m)(hl:Zaj o W)(hx:Wr C W W')(hC:∀ k,k<W.heap.size->C k->o k=none):Zcg F o W' mb m:=by
 obtain⟨s,hm⟩:=h;exact⟨s,hm.keep (fun g r hg=>hx.keep g (hl g r hg) (fun e=>by have:=hC g (hl g r hg) e;rw[hg] at this;cases this)) (fun _ _ h=>h)⟩
theorem SzS.go (h:SzS F c mb o m V met W)(hx:Wr (· = c.mt) W W')(hm:Zci W' c.mt (Value.int .i64) (mtL met')):SzS F c mb o m V met' W':=by
 have hc:∀ {b k:Nat} {v:Value},W.cell? ⟨b,k,none⟩=some v->c.mt≠b->W'.cell? ⟨b,k,none⟩=some v:=fun h hn=>(World.cell?_of_block (w:=W) (hx.keep _ (Zab h) (fun e=>hn e.symm))).trans h
 exact⟨h.is.other h.lt hx (fun k _ e=>h.own k (.inr (.inr (.inr e)))),h.lt.mono hx.size,h.ok,⟨hc h.x.cell h.ne.2.2.2,h.x.own⟩,hc h.bm h.ne.1,hc h.bx h.ne.2.1,hc h.bd h.ne.2.2.1,hm,h.own,h.ne⟩
theorem SzS.below (h:SzS F c mb o m V met W)(hb:Below W.heap.size W W'):SzS F c mb o m V met W':=h.go (Wr.of_below hb _) (h.map.below hb)
def SzR (F:Phi)(c:SzC)(mb:Nat)(o:Own)(m:ManD)(V:Nat->BF)(met:List Nat)(W:World)(x:Ending)(w':World):Prop:=x=.returned (.tuple #[])/\Wr (· = c.mt) W w'/\SzS F c mb o m V met w'
theorem Zqr (h:SzS F c mb o m V met W)(f:Nat):(Instr.lookup 134 (.map (some c.mt)) (.int .i64 (f:Nat)) false).run prog W=.ok (.bool (decide (f∈met))) W:=Zt7 h.map f
theorem Zlo (h:SzS F c mb o m V met W){f:Nat}(hf:okE (Zaa m.d) f)(hst:f/2=0\/f/2∈met):Calls prog 93 (#[.int .i64 f]++c.caps) W (SzR F c mb o m V met W):=by
 obtain⟨bm,bx,bd,mt,xb⟩:=c;have g2:=Zg6 (K:=fun _ _=>F) (V:=V) h.is hf;have g0:Hid (∀ q,Calls prog 94 #[.int .i64 f] (W.drewN q) fun x w'=>x=.returned (.bool (decide (enode f=0)))/\W.drewN q=w'):=Hd fun q=>Zgf f _ g2
 have g1:Hid (∀ q,Calls prog 95 #[.int .i64 f] (W.drewN q) fun x w'=>x=.returned (.int .i64 (enode f:Nat))/\W.drewN q=w'):=Hd fun q=>Zch f _ g2
 have g3:∀ q,(Instr.lookup 134 (.map (some mt)) (.int .i64 (enode f:Nat)) false).run prog (W.drewN q)=.ok (.bool (decide (enode f∈met))) (W.drewN q):=fun q=>Zqr (h.below (Zaf W q)) (enode f)
 have cbm:=h.bm;have HF:Hid (∀ q,SzR F ⟨bm,bx,bd,mt,xb⟩ mb o m V met W (.returned (.tuple #[])) (W.drewN q)):=Hd fun q=>⟨rfl,Wr.of_below (Zaf W q) _,h.below (Zaf W q)⟩
 obtain⟨P,hP⟩:∃ P,P=SzR F ⟨bm,bx,bd,mt,xb⟩ mb o m V met W:=⟨_,rfl⟩;rw[<- hP] at HF ⊢;unfold SzC.caps;clear hP h
 show Calls _ _ #[_,_,_,_] _ _
 rcases hst with h0|h0
 .
  rw[decide_eq_true (show enode f=0 from h0)] at g0
  go_enter func93,ntmps93
  go_wp2_with fail
  go_quiet ((first|(with_reducible exact Za6 (g0.out _))|(with_reducible exact Za6 (g1.out _))))
  go_wp2_with fail;refine bodyPost_ret (results_none rfl _ _ _) rfl ?_;exact HF.out _
 .
  simp only[decide_eq_true (show enode f∈met from h0)] at g3
  by_cases h1:enode f=0
  .
   rw[decide_eq_true h1] at g0
   go_enter func93,ntmps93
   go_wp2_with fail
   go_quiet ((first|(with_reducible exact Za6 (g0.out _))|(with_reducible exact Za6 (g1.out _))))
   go_wp2_with fail;refine bodyPost_ret (results_none rfl _ _ _) rfl ?_;exact HF.out _
  .
   rw[decide_eq_false h1] at g0
   go_enter func93,ntmps93
   go_wp2_with fail
   go_quiet ((first|(with_reducible exact Za6 (g0.out _))|(with_reducible exact Za6 (g1.out _))))
   go_wp2_with fail;refine bodyPost_ret (results_none rfl _ _ _) rfl ?_;exact HF.out _
theorem Ycv {k:Nat}(IH:∀ met f W,SzS F c mb o m V met W->okE (Zaa m.d) f->m.d.vars.length<=lvE m.d.vars.length (levN m.d) (Zaa m.d) f+k->Calls prog 93 (#[.int .i64 (f:Nat)]++c.caps) W (SzR F c mb o m V (Zff m.d k met f) W))
 (h:SzS F c mb o m V met W) {f:Nat} {b:BN} (hb:Zaa m.d (f/2)=some b) (hnm:f/2∉met) (hlev:m.d.vars.length<=lvE m.d.vars.length (levN m.d) (Zaa m.d) f+(k+1)) :
 Calls prog 93 (#[.int .i64 f]++c.caps) W (SzR F c mb o m V (Zff m.d k (Zff m.d k (met++[f/2]) (cofs m.d f b.v).1) (cofs m.d f b.v).2) W):=by
 obtain⟨bm,bx,bd,mt,xb⟩:=c;have hf:okE (Zaa m.d) f:=.inr ⟨b,hb⟩;have g4:=Zg6 (K:=fun _ _=>F) (V:=V) h.is hf;have gt:=h.ok.dag.var _ _ hb;have hl:levN m.d b.v<=lvE m.d.vars.length (levN m.d) (Zaa m.d) f:=by unfold lvE;rw[hb];exact Nat.le_refl _
 have gP:lvE m.d.vars.length (levN m.d) (Zaa m.d) f=levN m.d b.v:=by unfold lvE;rw[hb]
 obtain⟨q1,q2,q3,q4,_⟩:=Zdl h.ok hf gt hl;have h0:enode f≠0:=fun e=>by
  have:f/2=0:=e;rw[this,h.ok.dag.none0] at hb;cases hb
 obtain⟨lo,g5⟩:∃ z,z=(cofs m.d f b.v).1:=⟨_,rfl⟩;obtain⟨hi,g6⟩:∃ z,z=(cofs m.d f b.v).2:=⟨_,rfl⟩;rw[<- g5,<- g6];rw[<- g5] at q1 q3;rw[<- g6] at q2 q4;obtain⟨bv,g1⟩:∃ z,z=b.v:=⟨_,rfl⟩;have gm:Hid (∀ q,Calls prog 94 #[.int .i64 f] (W.drewN q) fun x w'=>x=.returned (.bool false)/\W.drewN q=w'):=Hd fun q=>by
  have:=Zgf f (W.drewN q) g4
  rwa [decide_eq_false h0] at this
 have gG:Hid (∀ W',Calls prog 95 #[.int .i64 f] W' fun x w'=>x=.returned (.int .i64 (enode f:Nat))/\W'=w'):=Hd fun W'=>Zch f W' g4
 have gF:Hid (∀ q,Calls prog 95 #[.int .i64 f] (W.drewN q) fun x w'=>x=.returned (.int .i64 (enode f:Nat))/\W.drewN q=w'):=Hd fun q=>Zch f _ g4
 have gO:∀ q,(Instr.lookup 134 (.map (some mt)) (.int .i64 (enode f:Nat)) false).run prog (W.drewN q)=.ok (.bool false) (W.drewN q):=fun q=>by
  have:=Zqr (h.below (Zaf W q)) (enode f)
  rwa [decide_eq_false (show ¬ enode f∈met from hnm)] at this
 have gC:Hid (∀ W',SzS F ⟨bm,bx,bd,mt,xb⟩ mb o m V met W'->∃ w',(Instr.mapUpdate 134 (.map (some mt)) (.int .i64 (enode f:Nat)) (.bool true)).run prog W'=.ok () w'/\Wr (· = mt) W' w'/\SzS F ⟨bm,bx,bd,mt,xb⟩ mb o m V (met++[f/2]) w'):=Hd fun W' g=>by
  obtain⟨w',r1,r2,r3⟩:=Zt8 g.map (f:=enode f) hnm;have hw:Wr (· = mt) W' w':=Wr.of_grown r3 _ (fun k e=>by cases e;rfl);exact⟨w',r1,hw,g.go hw r2⟩
 have gh:Hid (∀ W' s,SzS F ⟨bm,bx,bd,mt,xb⟩ mb o m V (met++[f/2]) W'->W'.heap[s]?=some (.cells #[.int .i64 f] 76 (0,0))->Calls prog 86 #[.pointer (some ⟨xb,0,none⟩),.slice (some ⟨s,0,none⟩) 1 1] W' fun x w'=>x=.returned (.int .i64 (bv:Nat))/\Below W'.heap.size W' w'):=Hd fun W' s g hs=>by
  refine(Zi4 g.is g.lt g.x g.ok [f] (by simpa using hf) (some ⟨s,0,none⟩) 1 ⟨by simp,fun i gQ=>?_⟩).mono ?_
  .
   obtain rfl:i=0:=by simpa using gQ
   exact⟨s,0,rfl,by rw[cell_of_row _ _ 0 _ _ _ hs];rfl⟩
  .
   rintro x w' ⟨top,least,rfl,ht,gM⟩;rcases Yaj ht with ⟨_,hn⟩|⟨b',gu,rfl⟩
   . rw[hb] at hn;cases hn
   . rw[hb] at gu;cases gu;exact⟨by rw[g1],gM⟩
 have gE:Hid (∀ W',SzS F ⟨bm,bx,bd,mt,xb⟩ mb o m V (met++[f/2]) W'->Calls prog 87 #[.pointer (some ⟨xb,0,none⟩),.int .i64 f,.int .i64 (bv:Nat)] W' fun x w'=>x=.returned (.tuple #[.int .i64 lo,.int .i64 hi])/\Below W'.heap.size W' w'):=Hd fun W' g=>by
  have:=Ze6 g.is g.lt g.x g.ok f hf (b.v:Nat);rw[<- g5,<- g6,<- g1] at this;exact this
 have gI:Hid (∀ W',SzS F ⟨bm,bx,bd,mt,xb⟩ mb o m V (met++[f/2]) W'->Calls prog 93 #[.int .i64 lo,.pointer (some ⟨bm,0,none⟩),.pointer (some ⟨bx,0,none⟩),.pointer (some ⟨bd,0,none⟩)] W' (SzR F ⟨bm,bx,bd,mt,xb⟩ mb o m V (Zff m.d k (met++[f/2]) lo) W')):=Hd fun W' g=>IH _ lo W' g q1 (by omega)
 have gH:Hid (∀ W',SzS F ⟨bm,bx,bd,mt,xb⟩ mb o m V (Zff m.d k (met++[f/2]) lo) W'->Calls prog 93 #[.int .i64 hi,.pointer (some ⟨bm,0,none⟩),.pointer (some ⟨bx,0,none⟩),.pointer (some ⟨bd,0,none⟩)] W' (SzR F ⟨bm,bx,bd,mt,xb⟩ mb o m V (Zff m.d k (Zff m.d k (met++[f/2]) lo) hi) W')):=Hd fun W' g=>IH _ hi W' g q2 (by omega)
 have cbm:=h.bm;have HS:=Hd h;obtain⟨P,hP⟩:∃ P,P=SzR F ⟨bm,bx,bd,mt,xb⟩ mb o m V (Zff m.d k (Zff m.d k (met++[f/2]) lo) hi) W:=⟨_,rfl⟩;have HP:Hid (∀ x w',SzR F ⟨bm,bx,bd,mt,xb⟩ mb o m V (Zff m.d k (Zff m.d k (met++[f/2]) lo) hi) W x w'->P x w'):=Hd (by rw[hP];exact fun _ _ e=>e);have eg1:=Zjr;rw[<- hP];unfold SzC.caps;clear hP h IH hb hnm hlev hf g4 gt hl gP q1 q2 q3 q4 h0 g5 g6 g1
 show Calls _ _ #[_,_,_,_] _ _
 go_enter func93,ntmps93
 go_wp2_with fail
 go_quiet ((first|(with_reducible exact Za6 (gm.out _))|(with_reducible exact Za6 (gF.out _))))
 go_upto_region 1 with fail;obtain⟨w1,ga⟩:∃ w1,w1=(W.drewN nq).drew:=⟨_,rfl⟩;have gf:Below W.heap.size W w1:=by rw[ga];exact Zaf W (nq+1)
 have gl:=Hd (HS.out.below gf);have HW1:=Hd (Wr.of_below gf (· = mt));have gv:=Hd ga;have cbm1:=gl.out.bm;clear ga gf;refine Zit [0,1,2,3] (fun W'=>W'.cell? ⟨bm,0,none⟩=some (.map (some mt))) (fun ch w'=>False) (fun c a w hd h=>h.elim) (by kernel_rfl) (by rw[<- gv.out];exact cbm1) ?_;rw[<- gv.out]
 iterate 2
  refine Zf2 rfl rfl (by kernel_rfl) ?_;apply Exists.intro;refine⟨fun w' hw=>?_,?_⟩
  . have q1:w'.cell? ⟨bm,0,none⟩=some (.map (some mt)):=hw;go_simp;rfl
  simp only[Zai]
 refine Zhb (R1:=fun u w'=>u=.int .i64 (enode f:Nat)/\w1=w') rfl (by kernel_rfl) rfl rfl (by go_simp) ((gG.out w1).mono fun x w' h=>⟨_,h.1,rfl,h.2⟩) (by rintro u w' ⟨_,rfl⟩;exact cbm1) ?_;rintro u w'-⟨rfl,rfl⟩;simp only[Zai];obtain⟨w2,gL,gq,gs⟩:=gC.out w1 gl.out;have gk:=Hd gs;have gB:=Hd (HW1.out.trans gq (fun _ _ e=>e) (fun _ _ e=>e));refine Zxi (w':=w2) rfl (by kernel_rfl) rfl rfl (by go_simp) gk.out.bm ?_;simp only[Zai];refine Zp0 (by kernel_rfl) ?_;clear gL gq gs cbm1 cbm;go_upto_region 2 with fail;obtain⟨w3,g9⟩:∃ w3,w3=w2.drew:=⟨_,rfl⟩;have ge:Below w2.heap.size w2 w3:=by rw[g9];exact Zaf w2 1
 have gg:=Hd g9;have gj:=Hd (gk.out.below ge);have gA:=Hd (gB.out.trans (Wr.of_below ge (· = mt)) (fun _ _ e=>e) (fun _ _ e=>e));have cbx:=gj.out.bx;have g7:=Zad w3 (.cells #[.int .i64 f] 76);obtain⟨w4,g2⟩:∃ w4,w4=w3.alloc (.cells #[.int .i64 f] 76):=⟨_,rfl⟩;rw[<- g2] at g7;have gN:=Hd g2;have gb:w4.heap[w3.heap.size]?=some (.cells #[.int .i64 f] 76 (0,0)):=by rw[g2];exact heap_alloc_new _ _
 have g0:=Hd (gj.out.below g7);have gz:=Hd (gA.out.trans (Wr.of_below g7 (· = mt)) (fun _ _ e=>e) (fun _ _ e=>e));have gD:=Hd (gh.out w4 _ g0.out gb);clear ge g7 g9 g2 gb;refine Zit [0,1,2,3,4,5,6,7,8,9,10,11] (fun W'=>W'.cell? ⟨bx,0,none⟩=some (.pointer (some ⟨xb,0,none⟩))) (fun ch w'=>False) (fun c a w hd h=>h.elim) (by kernel_rfl) (by rw[<- gg.out];exact cbx) ?_;rw[<- gg.out]
 iterate 4
  refine Zf2 rfl rfl (by kernel_rfl) ?_;apply Exists.intro;refine⟨fun w' hw=>?_,?_⟩
  . have q1:w'.cell? ⟨bx,0,none⟩=some (.pointer (some ⟨xb,0,none⟩)):=hw;go_simp;rfl
  simp only[Zai]
 refine Zzs (w':=w4) (v:=.slice (some ⟨w3.heap.size,0,none⟩) 1 1) rfl (by kernel_rfl) rfl (by go_simp;exact gN.out.symm) g0.out.bx ?_;simp only[Zai];refine Zhb (R1:=fun u w'=>u=.int .i64 (bv:Nat)/\Below w4.heap.size w4 w') rfl (by kernel_rfl) rfl rfl (by go_simp) (gD.out.mono fun x w' h=>⟨_,h.1,rfl,h.2⟩) (by rintro u w' ⟨_,hb⟩;exact(g0.out.below hb).bx) ?_;rintro u w5-⟨rfl,gd⟩;have g8:=Hd (g0.out.below gd);have gy:=Hd (gz.out.trans (Wr.of_below gd (· = mt)) (fun _ _ e=>e) (fun _ _ e=>e));clear gd;simp only[Zai];refine Zhb (R1:=fun u w'=>u=.tuple #[.int .i64 lo,.int .i64 hi]/\Below w5.heap.size w5 w') rfl (by kernel_rfl) rfl rfl (by go_simp) ((gE.out w5 g8.out).mono fun x w' h=>⟨_,h.1,rfl,h.2⟩) (by rintro u w' ⟨_,hb⟩;exact(g8.out.below hb).bx) ?_;rintro u w6-⟨rfl,gc⟩;have gi:=Hd (g8.out.below gc);have gx:=Hd (gy.out.trans (Wr.of_below gc (· = mt)) (fun _ _ e=>e) (fun _ _ e=>e));clear gc cbx;simp only[Zai]
 iterate 5
  refine Zf2 rfl rfl (by kernel_rfl) ?_;apply Exists.intro;refine⟨fun w' hw=>?_,?_⟩
  . go_simp;rfl
  simp only[Zai]
 refine Zp0 (by kernel_rfl) ?_;have cbd:=gi.out.bd;unfold SzC.caps at cbd;have gK:=Hd (gI.out w6 gi.out);clear gl HW1 gk gB gj gA g0 gz g8 gy gD gI gh gE gC gG gF gm gO;go_wp2_with fail;refine gK.out.mono ?_;rintro x w7 ⟨rfl,gp,g3⟩;have gR:=Hd g3;have gw:=Hd (gx.out.trans gp (fun _ _ e=>e) (fun _ _ e=>e));have gJ:=Hd (gH.out w7 g3);have cbd7:=g3.bd;unfold SzC.caps at cbd7;clear gp g3 cbd gK gH gi gx;go_wp2_with fail;refine gJ.out.mono ?_;rintro x w8 ⟨rfl,gn,gr⟩;have HF:=Hd (HP.out (.returned (.tuple #[])) w8 ⟨rfl,gw.out.trans gn (fun _ _ e=>e) (fun _ _ e=>e),gr⟩);clear gn gr cbd7 gJ gR gw HP;go_wp2_with fail;refine bodyPost_end (results_none rfl _ _ _) rfl ?_;exact HF.out
theorem Zsx:∀ (k:Nat) (met:List Nat) (f:Nat) (W:World),SzS F c mb o m V met W->okE (Zaa m.d) f->m.d.vars.length<=lvE m.d.vars.length (levN m.d) (Zaa m.d) f+k->Calls prog 93 (#[.int .i64 (f:Nat)]++c.caps) W (SzR F c mb o m V (Zff m.d k met f) W)
 | 0,met,f,W,h,hf,hl=>by
   refine Zlo h hf (.inl ?_);rcases hf with h1|⟨b,hb⟩
   . exact h1
   . exfalso;have h1:=h.ok.dag.lt b.v (h.ok.dag.var _ _ hb);unfold lvE at hl;rw[hb] at hl;simp at hl;omega
 | k+1,met,f,W,h,hf,hl=>by
   unfold Zff;cases hb:Zaa m.d (f/2) with
   | none =>
     refine Zlo h hf (.inl ?_);rcases hf with h1|⟨b,hb'⟩
     . exact h1
     . rw[hb] at hb';cases hb'
   | some b =>
     show Calls _ _ _ _ (SzR F c mb o m V (if f/2∈met then met else _) W)
     by_cases hm:f/2∈met
     . rw[if_pos hm];exact Zlo h hf (.inr hm)
     . rw[if_neg hm];exact Ycv (fun met f W=>Zsx k met f W) h hb hm hl
end
open Go.RowKit
section
variable {F:Phi}{mb xb:Nat}{o:Own}{m:ManD}{V:Nat->BF}{W:World}
noncomputable def nodN (n:Nat)(ord:List Nat)(G:BF):Nat:=(nodesF n ord [G]).length
theorem Zux (hk:Zal m.d V){n:Nat}(hn:m.d.vars.length=n){f:Nat}(hf:okE (Zaa m.d) f):(Zff m.d n [] f).length=nodN n m.d.vars (ef V f):=by
 have h:=Zji hk hk.dag.none0 n [] [] f hf ⟨rfl,fun i hi=>by simp at hi,fun i h1=>by simp at h1⟩;rw[h.len,hn];rfl
theorem Zsw {n:Nat}(h:Zcg F o W mb m)(hlt:Zaj o W)(hk:Zal m.d V)(hx:Zce o W xb mb)(hn:m.d.vars.length=n){f:Nat}(hf:okE (Zaa m.d) f) :
 Calls prog 44 #[.pointer (some ⟨xb,0,none⟩),.int .i64 f] W fun x w'=>x=.returned (.int .i64 (nodN n m.d.vars (ef V f):Nat))/\Below W.heap.size W w':=by
 have gn:∀ (fn:Fn) (first cap:Array Value) (w:World),(Instr.makeFunc fn first cap).run prog w=.ok (.func fn first cap) w:=fun _ _ _ _=>rfl
 have gm:=fun t w=>Zfz (P:=prog) w t
 obtain⟨w4,g4⟩:∃ w4,w4=(((W.alloc (.cells #[.pointer (some ⟨xb,0,none⟩)] 75)).alloc (.map #[] 0)).alloc (.cells #[.map (some (W.heap.size+1))] 134)).alloc (.cells #[.nilFunc] 135):=⟨_,rfl⟩;have gj:Hid (_=w4):=Hd g4.symm;have gi:w4.heap.size=W.heap.size+1+1+1+1:=by rw[g4];simp
 have gg:Below W.heap.size W w4:=by rw[g4];exact(((Zad _ _).alloc (by simp) _).alloc (by simp;omega) _).alloc (by simp;omega) _
 have g0:w4.heap[W.heap.size]?=some (.cells #[.pointer (some ⟨xb,0,none⟩)] 75 (0,0)):=by
  rw[g4];exact(Go.heap_alloc_old _ _ (by simp;omega)).trans ((Go.heap_alloc_old _ _ (by simp;omega)).trans ((Go.heap_alloc_old _ _ (by simp)).trans (heap_alloc_new _ _)))
 have g1:Zci w4 (W.heap.size+1) (Value.int .i64) (mtL []):=by
  have h1:=Zle (W.alloc (.cells #[.pointer (some ⟨xb,0,none⟩)] 75)) (Value.int .i64);rw[World.size_alloc] at h1;rw[g4];exact(h1.below (Zad _ _)).below (Zad _ _)
 have g2:w4.heap[W.heap.size+1+1]?=some (.cells #[.map (some (W.heap.size+1))] 134 (0,0)):=by
  have:=heap_alloc_new ((W.alloc (.cells #[.pointer (some ⟨xb,0,none⟩)] 75)).alloc (.map #[] 0)) (.cells #[.map (some (W.heap.size+1))] 134);rw[World.size_alloc,World.size_alloc] at this;rw[g4];exact(Go.heap_alloc_old _ _ (by simp)).trans this
 have g3:w4.heap[W.heap.size+1+1+1]?=some (.cells #[.nilFunc] 135 (0,0)):=by
  have:=heap_alloc_new (((W.alloc (.cells #[.pointer (some ⟨xb,0,none⟩)] 75)).alloc (.map #[] 0)).alloc (.cells #[.map (some (W.heap.size+1))] 134)) (.cells #[.nilFunc] 135);rw[World.size_alloc,World.size_alloc,World.size_alloc] at this;rw[g4];exact this
 obtain⟨FV,gc⟩:∃ FV:Value,FV=.func (.func 93) #[] #[.pointer (some ⟨W.heap.size+1+1,0,none⟩),.pointer (some ⟨W.heap.size,0,none⟩),.pointer (some ⟨W.heap.size+1+1+1,0,none⟩)]:=⟨_,rfl⟩;have c6:=cell1 g3;have f6:w4.frozen? ⟨W.heap.size+1+1+1,0,none⟩=false:=by simp[World.frozen?,g3]
 obtain⟨w5,g5⟩:∃ w5,w5=w4.setCell ⟨W.heap.size+1+1+1,0,none⟩ FV:=⟨_,rfl⟩;have go:Hid (_=w5):=Hd g5.symm;have g7:∀ q:Nat,q≠W.heap.size+1+1+1->w5.heap[q]?=w4.heap[q]?:=fun q hq=>by rw[g5];exact Zag hq _
 have e6:w5.heap[W.heap.size+1+1+1]?=some (.cells #[FV] 135 (0,0)):=by rw[g5];exact Zah g3 _
 have g6:Below W.heap.size W w5:=by rw[g5];exact gg.setCell (p:=⟨W.heap.size+1+1+1,0,none⟩) (by show W.heap.size<=W.heap.size+1+1+1;omega) _
 have ga:(store ⟨W.heap.size+1+1+1,0,none⟩ FV).run prog w4=.ok () w5:=by
  rw[run_store _ _ _ _ _ (by rw[gc];rfl)];simp[c6,f6,g5]
 have k6:w5.cell? ⟨W.heap.size+1+1+1,0,none⟩=some FV:=cell1 e6;rw[gc] at k6 ga;have gd:xb<W.heap.size:=Zab hx.cell;have hs:SzS F ⟨W.heap.size+1+1,W.heap.size,W.heap.size+1+1+1,W.heap.size+1,xb⟩ mb o m V [] w5:=by
  refine⟨h.other hlt (Wr.of_below g6 NoB) (fun _ _ e=>e.elim),hlt.mono g6.size,hk,⟨(g6.cell (p:=⟨xb,0,none⟩) gd).trans hx.cell,hx.own⟩,cell1 ((g7 (W.heap.size+1+1) (by omega)).trans g2),cell1 ((g7 W.heap.size (by omega)).trans g0),k6,g1.keepB (g7 (W.heap.size+1) (by omega)),?_,?_⟩
  .
   rintro q (rfl|rfl|rfl|rfl)
   . exact hlt.none (by show W.heap.size<=W.heap.size+1+1;omega)
   . exact hlt.none (Nat.le_refl _)
   . exact hlt.none (by show W.heap.size<=W.heap.size+1+1+1;omega)
   . exact hlt.none (by show W.heap.size<=W.heap.size+1;omega)
  .
   refine⟨?_,?_,?_,?_⟩
   . show W.heap.size+1≠W.heap.size+1+1;omega
   . show W.heap.size+1≠W.heap.size;omega
   . show W.heap.size+1≠W.heap.size+1+1+1;omega
   . show W.heap.size+1≠xb;omega
 have g8:=Zsx n [] f w5 hs hf (by rw[hn];omega)
 have g9:Hid (Calls prog 93 #[.int .i64 f,.pointer (some ⟨W.heap.size+1+1,0,none⟩),.pointer (some ⟨W.heap.size,0,none⟩),.pointer (some ⟨W.heap.size+1+1+1,0,none⟩)] w5 fun x w'=>x=.returned (.tuple #[])/\w'.cell? ⟨W.heap.size+1+1,0,none⟩=some (.map (some (W.heap.size+1)))/\Zci w' (W.heap.size+1) (Value.int .i64) (mtL (Zff m.d n [] f))/\Below W.heap.size W w'):=Hd (g8.mono (by
  rintro x w' ⟨rfl,q1,q2⟩;exact⟨rfl,q2.bm,q2.map,g6.trans (q1.below (fun k e=>by have:k=W.heap.size+1:=e;omega) g6.size)⟩))
 have HN:=Hd (Zux hk hn hf);obtain⟨N,hN⟩:∃ N,N=nodN n m.d.vars (ef V f):=⟨_,rfl⟩;have gk:=Hd hN;rw[<- hN];have eg1:=Zjr;clear g8 hs h hlt hk hx hn hf gg g6 g7 e6 g0 g1 g2 g3 g4 g5 gi gc gd hN
 go_enter func44,ntmps44
 go_upto_region 3 with fail;rw[gj.out];go_wp2_with fail;refine g9.out.mono ?_;rintro x w6 ⟨rfl,cm,gb,gf⟩;have gh:=fun ty=>gb.size (P:=prog) underlying134 ty
 have ge:(mtL (Zff m.d n [] f)).length=N:=by rw[gk.out,<- HN.out];simp[mtL]
 rw[ge] at gh;have gl:=Hd gf;clear gb gf ge g9 c6 f6 k6 ga;go_wp2_with fail;go_ret;exact⟨rfl,gl.out⟩
end
open Go.RowKit
theorem Zk5 (args:Array Value)(w:World):(callFunc 43 args).run prog w=.ok (.enter 43 args) w:=enters_of func43 (by kernel_rfl) rfl args w
structure SqR (n:Nat)(ord:List Nat)(F G R:BF):Prop where
 lo:∀ ρ,F ρ=true->R ρ=true
 hi:∀ ρ,R ρ=true->G ρ=true
 nlo:nodN n ord R<=nodN n ord F
 nhi:nodN n ord R<=nodN n ord G
section
variable {n:Nat}{o:Own}{w:World}{mb xb:Nat}{m:ManD}{V:Nat->BF}
theorem Zuz (hm:Zcg (Za5 m.d V) o w mb m)(hlt:Zaj o w)(hx:Zce o w xb mb)(hk:Zal m.d V)(hn:m.d.vars.length=n)(hnd:(m.hs.map Prod.fst).Nodup){kf kc:Int}{f e bf bc:Nat}(hkf:(kf,f)∈m.hs)(hkc:(kc,e)∈m.hs)(hf:okE (Zaa m.d) f)(he:okE (Zaa m.d) e)(hle:∀ ρ,ef V f ρ=true->ef V e ρ=true)(cf:w.cell? ⟨bf,0,none⟩=some (.int .i64 kf))(cc:w.cell? ⟨bc,0,none⟩=some (.int .i64 kc)) :
 Calls prog 43 #[.pointer (some ⟨xb,0,none⟩),.pointer (some ⟨bf,0,none⟩),.pointer (some ⟨bc,0,none⟩)] w (Zbr Za5 ((2^n-1)+(2^n-1)*2^n) o w mb m V fun d V' r=>SqR n d.vars (ef V f) (ef V e) (ef V' r)):=by
 obtain⟨N,hN⟩:∃ N,N=(2^n-1)*2^n:=⟨_,rfl⟩;obtain⟨M,hM⟩:∃ M,M=2^n-1:=⟨_,rfl⟩;obtain⟨sz,g3⟩:∃ sz:Nat->Nat,sz=fun x=>nodN n m.d.vars (ef V x):=⟨_,rfl⟩
 obtain⟨P,hP⟩:∃ P:Ending->World->Prop,P=Zbr Za5 (M+N) o w mb m V fun d V' r=>SqR n d.vars (ef V f) (ef V e) (ef V' r):=⟨_,rfl⟩
 rw[<- hN,<- hM,<- hP];have g9:AtC Za5 0 o w mb m V o w m V:=AtC.refl hm hlt hk;have gB:Hid (∀ q,Calls prog 38 #[.pointer (some ⟨xb,0,none⟩),.int .i64 kf] (w.drewN q) fun x w'=>x=.returned (.int .i64 f)/\w.drewN q=w'):=Hd fun q=>Zb7 (g9.below (Zaf w q)).st.is ⟨((Zaf w q).cell (p:=⟨xb,0,none⟩) (Zab hx.cell)).trans hx.cell,hx.own⟩ hnd hkf
 have gC:Hid (∀ q,Calls prog 38 #[.pointer (some ⟨xb,0,none⟩),.int .i64 kc] (w.drewN q) fun x w'=>x=.returned (.int .i64 e)/\w.drewN q=w'):=Hd fun q=>Zb7 (g9.below (Zaf w q)).st.is ⟨((Zaf w q).cell (p:=⟨xb,0,none⟩) (Zab hx.cell)).trans hx.cell,hx.own⟩ hnd hkc
 have gm:Hid (∀ W',Below w.heap.size w W'->Zce o W' xb mb):=Hd fun W' hb=>⟨(hb.cell (p:=⟨xb,0,none⟩) (Zab hx.cell)).trans hx.cell,hx.own⟩
 have HSZ:Hid (∀ W' x,Below w.heap.size w W'->okE (Zaa m.d) x->Calls prog 44 #[.pointer (some ⟨xb,0,none⟩),.int .i64 (x:Nat)] W' fun y w'=>y=.returned (.int .i64 (sz x:Nat))/\Below w.heap.size w w'):=Hd fun W' x hb gh=>by
  have h1:=g9.below hb;refine(Zsw h1.st.is h1.st.lt hk (gm.out W' hb) hn gh).mono ?_;rintro y w' ⟨rfl,g6⟩;exact⟨by rw[g3],hb.trans (g6.mono hb.size)⟩
 have gf:Hid (∀ W' x,Below w.heap.size w W'->okE (Zaa m.d) x->SqR n m.d.vars (ef V f) (ef V e) (ef V x)->P (.returned (.int .i64 (x:Nat))) W'):=Hd fun W' x hb gh hs=>by
  rw[hP];exact .inl ⟨x,o,m,V,rfl,(g9.below hb).mono (Nat.zero_le _),gh,hs⟩
 have gA:Hid (∀ W',Below w.heap.size w W'->Calls prog 37 #[.pointer (some ⟨xb,0,none⟩),.int .i64 f,.int .i64 0,.int .i64 (enot e:Nat)] W' fun y w' =>
  (∃ q:Nat,y=.returned (.int .i64 q)/\Calls prog 46 #[.pointer (some ⟨xb,0,none⟩),.int .i64 f,.int .i64 q] w' fun y2 w2 =>
   (∃ (r:Nat) (s2:Nat->Nat),y2=.returned (.int .i64 r)/\(∀ W2 x,Below w2.heap.size w2 W2->(x=r\/x=f\/x=e)->Calls prog 44 #[.pointer (some ⟨xb,0,none⟩),.int .i64 (x:Nat)] W2 fun y w'=>y=.returned (.int .i64 (s2 x:Nat))/\Below w2.heap.size w2 w')/\s2 f=sz f/\s2 e=sz e /\
    (∀ W2 x,Below w2.heap.size w2 W2->(x=r\/x=f\/x=e)->s2 x<=sz f->s2 x<=sz e->P (.returned (.int .i64 (x:Nat))) W2))\/(∃ er evt ev,y2=Zbg er evt ev/\P (Zbg er evt ev) w2))\/(∃ er evt ev,y=Zbg er evt ev/\P (Zbg er evt ev) w')):=Hd fun W' hb=>by
  have h1:=g9.below hb;refine(Zii Zb1 h1.st.is h1.st.lt (gm.out W' hb) hk hn f 0 (enot e) hf (.inl rfl) (Zn0 he)).mono ?_;rintro y w' (⟨q,o1,m1,V1,rfl,a1,a2,a3⟩|⟨er,evt,ev,rfl,gr⟩)
  .
   refine .inl ⟨q,rfl,?_⟩;have x1:Zce o1 w' xb mb:=⟨a1.st.chg.cell (gm.out W' hb).cell hx.own,a1.st.chg.alien' (Zab (gm.out W' hb).cell) hx.own⟩;have v1:m1.d.vars.length=n:=a1.vars hn;have f1:=a1.st.ext.ok hf;have e1:=a1.st.ext.ok he;have ff1:=a1.st.ext.ef hf;have fe1:=a1.st.ext.ef he;have ge:∀ ρ,ef V1 q ρ=true↔(ef V f ρ=true\/ef V e ρ=false):=fun ρ=>by
    rw[show ef V1 q=_ from a3,hk.dag.ef0,Zra]
    show iteB (ef V f ρ) true (!ef V e ρ)=true↔_
    cases ef V f ρ<;>cases ef V e ρ<;>simp[iteB]
   have gu:∀ {y2:Ending} {w2:World} {k:Nat},k<=N->Zbr Za5 k o1 w' mb m1 V1 (fun _ V' r=>∀ ρ,ef V1 q ρ=true->ef V' r ρ=ef V1 f ρ) y2 w2->(∃ (r:Nat) (s2:Nat->Nat),y2=.returned (.int .i64 r)/\(∀ W2 x,Below w2.heap.size w2 W2->(x=r\/x=f\/x=e)->Calls prog 44 #[.pointer (some ⟨xb,0,none⟩),.int .i64 (x:Nat)] W2 fun y w'=>y=.returned (.int .i64 (s2 x:Nat))/\Below w2.heap.size w2 w')/\s2 f=sz f/\s2 e=sz e /\
    (∀ W2 x,Below w2.heap.size w2 W2->(x=r\/x=f\/x=e)->s2 x<=sz f->s2 x<=sz e->P (.returned (.int .i64 (x:Nat))) W2))\/(∃ er evt ev,y2=Zbg er evt ev/\P (Zbg er evt ev) w2):=by
    rintro y2 w2 k gI (⟨r,o2,m2,V2,rfl,c1,c2,c3⟩|⟨er,evt,ev,rfl,gr⟩)
    .
     have x2:Zce o2 w2 xb mb:=⟨c1.st.chg.cell x1.cell x1.own,c1.st.chg.alien' (Zab x1.cell) x1.own⟩;have v2:m2.d.vars=m.d.vars:=by rw[c1.st.ext.vars,a1.st.ext.vars]
     have f2:=c1.st.ext.ok f1;have e2:=c1.st.ext.ok e1;have ff2:ef V2 f=ef V f:=(c1.st.ext.ef f1).trans ff1;have fe2:ef V2 e=ef V e:=(c1.st.ext.ef e1).trans fe1;have ok2:∀ x,(x=r\/x=f\/x=e)->okE (Zaa m2.d) x:=by
      rintro x (rfl|rfl|rfl)
      . exact c2
      . exact f2
      . exact e2
     have hr:∀ ρ,ef V1 q ρ=true->ef V2 r ρ=ef V f ρ:=fun ρ h=>by rw[<- ff1];exact c3 ρ h
     have gF:∀ x,(x=r\/x=f\/x=e)->∀ ρ,ef V f ρ=true->ef V2 x ρ=true:=by
      rintro x (rfl|rfl|rfl) ρ h
      . rw[hr ρ ((ge ρ).2 (.inl h))];exact h
      . rw[ff2];exact h
      . rw[fe2];exact hle ρ h
     have gG:∀ x,(x=r\/x=f\/x=e)->∀ ρ,ef V2 x ρ=true->ef V e ρ=true:=by
      rintro x (rfl|rfl|rfl) ρ h
      .
       cases hc:ef V e ρ with
       | true=>rfl
       | false =>
         rw[hr ρ ((ge ρ).2 (.inr hc))] at h;have:=hle ρ h;rw[hc] at this;cases this
      . rw[ff2] at h;exact hle ρ h
      . rw[fe2] at h;exact h
     refine .inl ⟨r,fun x=>nodN n m2.d.vars (ef V2 x),rfl,fun W2 x g6 gg=>?_,(by show nodN n m2.d.vars (ef V2 f)=sz f;rw[ff2,v2,g3]),(by show nodN n m2.d.vars (ef V2 e)=sz e;rw[fe2,v2,g3]),fun W2 x g6 gg g1 g2=>?_⟩
     . have c1':=c1.below g6;refine(Zsw (n:=n) c1'.st.is c1'.st.lt c1'.st.ok ⟨(g6.cell (p:=⟨xb,0,none⟩) (Zab x2.cell)).trans x2.cell,x2.own⟩ (by rw[v2];exact hn) (ok2 x gg)).mono ?_;rintro y w3 ⟨rfl,gl⟩;exact⟨rfl,g6.trans (gl.mono g6.size)⟩
     .
      rw[hP];have at2:=((h1.trans a1).trans c1).below g6;refine .inl ⟨x,o2,m2,V2,rfl,at2.mono (by omega),ok2 x gg,gF x gg,gG x gg,?_,?_⟩
      . rw[g3] at g1;rw[v2] at g1 ⊢;exact g1
      . rw[g3] at g2;rw[v2] at g2 ⊢;exact g2
    . refine .inr ⟨er,evt,ev,rfl,?_⟩;rw[hP];exact .inr ⟨er,evt,ev,rfl,gr.after (h1.trans a1) (by omega)⟩
   by_cases gs:SatF (ef V1 q)
   .
    refine(Zur a1.st.is a1.st.lt x1 a1.st.ok v1 f1 a2 gs).mono fun y2 w2 hp=>?_
    rw[<- hN] at hp;exact gu (Nat.le_refl _) (hp.good fun _ _ _ _ h=>h.1)
   .
    have gH:f/2=0:=by
     have hc:ef V f=fun _=>false:=funext fun ρ=>by
      cases h:ef V f ρ with
      | false=>rfl
      | true=>exact(gs ⟨ρ,(ge ρ).2 (.inl h)⟩).elim
     have:f=1:=(hk.dag.canon_iff hf (.inl rfl)).1 (by rw[hc,hk.dag.ef1]);omega
    refine(Zus a1.st.is a1.st.lt x1 a1.st.ok v1 f1 gH).mono fun y2 w2 hp=>?_
    exact gu (Nat.zero_le _) (hp.good fun _ _ _ _ h ρ _=>by rw[show ef _ _=ef V1 f from h])
  . refine .inr ⟨er,evt,ev,rfl,?_⟩;rw[hP];exact .inr ⟨er,evt,ev,rfl,gr.after h1 (by omega)⟩
 have gv:Hid (∀ W',Calls prog 45 #[.int .i64 e] W' fun x w'=>x=.returned (.int .i64 (enot e:Nat))/\W'=w'):=Hd fun W'=>Zny e W' (Zg6 hm he)
 have go:Hid (∀ x,(x=f\/x=e)->sz x<=sz f->sz x<=sz e->SqR n m.d.vars (ef V f) (ef V e) (ef V x)):=Hd fun x gh g1 g2=>by
  rw[g3] at g1 g2;rcases gh with rfl|rfl
  . exact⟨fun _ h=>h,hle,Nat.le_refl _,g2⟩
  . exact⟨hle,fun _ h=>h,g1,Nat.le_refl _⟩
 have gy:=Hd hf;have gz:=Hd he;clear hP g3 hm hlt hx hk hn hnd hkf hkc hf he hle g9 hN hM gm
 go_enter func43,ntmps43
 go_wp2_with fail
 go_quiet ((first|(with_reducible exact Za6 (gB.out _))|(with_reducible exact Za6 (gC.out _))))
 obtain⟨w1,gq⟩:∃ w1,w1=w.drewN nq:=⟨_,rfl⟩;have gE:Hid (Below w.heap.size w w1):=Hd (by rw[gq];exact Zaf w nq);rw[<- gq];clear gq cf cc gB gC;have gx:=Hd (HSZ.out w1 e gE.out gz.out);go_wp2_with fail;refine gx.out.mono ?_;rintro x w2 ⟨rfl,g6⟩;have gw:=Hd (HSZ.out w2 f g6 gy.out);clear g6 gx gE;go_wp2_with fail;refine gw.out.mono ?_;rintro x w3 ⟨rfl,gl⟩;have gD:=Hd gl;have HI:=Hd (gA.out w3 gl);have ga:=Hd (gv.out w3);clear gl gw HSZ gA gv
 by_cases hl:sz e<sz f
 .
  have hz:((sz e:Nat):Int)<((sz f:Nat):Int):=by omega
  have g0:=Hd hl;clear hl
  by_cases gc:f=e
  .
   have gt:(((f:Nat):Int) != ((e:Nat):Int))=false:=by subst gc;simp
   have HF:=Hd (gf.out w3 e gD.out gz.out (go.out e (.inr rfl) (by have:=g0.out;omega) (by have:=g0.out;omega)));clear HI ga gc;go_wp2_with fail;exact HF.out
  .
   have gt:(((f:Nat):Int) != ((e:Nat):Int))=true:=by rw[bne_iff_ne];omega
   clear gc gf go;go_wp2_with fail;refine ga.out.mono ?_;rintro x w' ⟨rfl,rfl⟩;go_wp2_with fail;refine HI.out.mono ?_;rintro x w4 (⟨q,rfl,hr⟩|⟨er,evt,ev,rfl,hp⟩)
   .
    have HR:=Hd hr;clear hr HI ga;go_wp2_with fail;refine HR.out.mono ?_;rintro x w5 (⟨r,s2,rfl,g3,hs1,gi,gb⟩|⟨er,evt,ev,rfl,hp⟩)
    .
     have HZ:=Hd g3;have g5:=Hd hs1;have g4:=Hd gi;have g8:=Hd gb;have gn:=Hd (g3 w5 r (Below.refl _ _) (.inl rfl));clear g3 hs1 gi gb HR;go_wp2_with fail;refine gn.out.mono ?_;rintro x w6 ⟨rfl,gk⟩;have gd:=Hd (HZ.out w6 e gk (.inr (.inr rfl)));clear gk gn HZ;go_wp2_with fail;refine gd.out.mono ?_;rintro x w7 ⟨rfl,g7⟩
     by_cases gj:s2 r<s2 e
     .
      have gp:((s2 r:Nat):Int)<((s2 e:Nat):Int):=by omega
      have HF:=Hd (g8.out w7 r g7 (.inl rfl) (by have:=g5.out;have:=g4.out;have:=g0.out;omega) (by have:=g5.out;have:=g4.out;have:=g0.out;omega));clear g7 gd gj g8 g5 g4 g0;go_wp2_with fail;exact HF.out
     .
      have gp:¬ ((s2 r:Nat):Int)<((s2 e:Nat):Int):=by omega
      have HF:=Hd (g8.out w7 e g7 (.inr (.inr rfl)) (by have:=g5.out;have:=g4.out;have:=g0.out;omega) (by have:=g5.out;have:=g4.out;have:=g0.out;omega));clear g7 gd gj g8 g5 g4 g0;go_wp2_with fail;exact HF.out
    . have HF:=Hd hp;clear hp HR;unfold Zbg;go_wp2_with fail;exact⟨rfl,HF.out⟩
   . have HF:=Hd hp;clear hp HI ga;unfold Zbg;go_wp2_with fail;exact⟨rfl,HF.out⟩
 .
  have hz:¬ ((sz e:Nat):Int)<((sz f:Nat):Int):=by omega
  have g0:=Hd hl;clear hl
  by_cases gc:f=e
  .
   have gt:(((f:Nat):Int) != ((e:Nat):Int))=false:=by subst gc;simp
   have HF:=Hd (gf.out w3 f gD.out gy.out (go.out f (.inl rfl) (by have:=g0.out;omega) (by have:=g0.out;omega)));clear HI ga gc;go_wp2_with fail;exact HF.out
  .
   have gt:(((f:Nat):Int) != ((e:Nat):Int))=true:=by rw[bne_iff_ne];omega
   clear gc gf go;go_wp2_with fail;refine ga.out.mono ?_;rintro x w' ⟨rfl,rfl⟩;go_wp2_with fail;refine HI.out.mono ?_;rintro x w4 (⟨q,rfl,hr⟩|⟨er,evt,ev,rfl,hp⟩)
   .
    have HR:=Hd hr;clear hr HI ga;go_wp2_with fail;refine HR.out.mono ?_;rintro x w5 (⟨r,s2,rfl,g3,hs1,gi,gb⟩|⟨er,evt,ev,rfl,hp⟩)
    .
     have HZ:=Hd g3;have g5:=Hd hs1;have g4:=Hd gi;have g8:=Hd gb;have gn:=Hd (g3 w5 r (Below.refl _ _) (.inl rfl));clear g3 hs1 gi gb HR;go_wp2_with fail;refine gn.out.mono ?_;rintro x w6 ⟨rfl,gk⟩;have gd:=Hd (HZ.out w6 f gk (.inr (.inl rfl)));clear gk gn HZ;go_wp2_with fail;refine gd.out.mono ?_;rintro x w7 ⟨rfl,g7⟩
     by_cases gj:s2 r<s2 f
     .
      have gp:((s2 r:Nat):Int)<((s2 f:Nat):Int):=by omega
      have HF:=Hd (g8.out w7 r g7 (.inl rfl) (by have:=g5.out;have:=g4.out;have:=g0.out;omega) (by have:=g5.out;have:=g4.out;have:=g0.out;omega));clear g7 gd gj g8 g5 g4 g0;go_wp2_with fail;exact HF.out
     .
      have gp:¬ ((s2 r:Nat):Int)<((s2 f:Nat):Int):=by omega
      have HF:=Hd (g8.out w7 f g7 (.inr (.inl rfl)) (by have:=g5.out;have:=g4.out;have:=g0.out;omega) (by have:=g5.out;have:=g4.out;have:=g0.out;omega));clear g7 gd gj g8 g5 g4 g0;go_wp2_with fail;exact HF.out
    . have HF:=Hd hp;clear hp HR;unfold Zbg;go_wp2_with fail;exact⟨rfl,HF.out⟩
   . have HF:=Hd hp;clear hp HI ga;unfold Zbg;go_wp2_with fail;exact⟨rfl,HF.out⟩
end
open Go.RowKit
section
variable {n room:Nat}{w0 w W:World}{mb:Nat}{fs:List (Int×BF)}{nx:Int}{o:Own}{m:ManD}{V:Nat->BF}{ws0:List Ev}{rs:List (Value×BF)}
theorem Zpl {F G:BF}:impF F G=Zd5 0↔∀ ρ,F ρ=true->G ρ=true:=by
 constructor
 . intro h ρ hf;have h1:=congrFun h ρ;have h2:iteB (F ρ) (G ρ) true=true:=h1;rw[hf] at h2;exact h2
 .
  intro h;funext ρ
  show iteB (F ρ) (G ρ) true=true
  cases hf:F ρ with
  | false=>rfl
  | true=>exact h ρ hf
def SqP (n room:Nat)(w0:World)(mb:Nat)(fs:List (Int×BF))(nx:Int)(ws0:List Ev)(F G:BF)(b:Bool)(o:Own)(w:World)(x:Ending)(w':World):Prop :=
 (b=true/\NewA Za5 n room w0 mb fs nx ws0 (fun ord R=>SqR n ord F G R) o w x w') \/
 (b=false/\x=.returned (.tuple #[.int .i64 0,.int .i64 1])/\∃ o' m' V',ChgX NoB o o' w w'/\m'.waits <:+ ws0/\SatE Za5 n (fun _=>True) room w0 mb fs nx w' o' m' V')
theorem Zhm (h:SatE Za5 n (fun _=>True) room w0 mb fs nx w o m V){kf kc:Int}{F G:BF}(hf:(kf,F)∈fs)(hc:(kc,G)∈fs){b:Bool}(hb:b=true↔impF F G=Zd5 0)(hst:m.waits <:+ ws0)(hn:nx<=549755813888)(hr:fs.length*2^n+((2^n-1)+(2^n-1)*2^n)<=room) :
 Calls prog 11 #[.pointer (some ⟨mb,0,none⟩),.int .i64 kf,.int .i64 kc] w (SqP n room w0 mb fs nx ws0 F G b o w):=by
 have gn:∀ (fn:Fn) (first cap:Array Value) (w:World),(Instr.makeFunc fn first cap).run prog w=.ok (.func fn first cap) w:=fun _ _ _ _=>rfl
 obtain⟨w2,g2⟩:∃ w2,w2=(w.alloc (.cells #[.int .i64 kf] 3)).alloc (.cells #[.int .i64 kc] 3):=⟨_,rfl⟩;have gm:Hid (_=w2):=Hd g2.symm;have gb:Below w.heap.size w w2:=by rw[g2];exact(Zad _ _).alloc (by simp) _
 have g0:w2.heap[w.heap.size]?=some (.cells #[.int .i64 kf] 3 (0,0)):=by rw[g2];exact(Go.heap_alloc_old _ _ (by simp)).trans (heap_alloc_new _ _)
 have g1:w2.heap[w.heap.size+1]?=some (.cells #[.int .i64 kc] 3 (0,0)):=by
  have:=heap_alloc_new (w.alloc (.cells #[.int .i64 kf] 3)) (.cells #[.int .i64 kc] 3);rw[World.size_alloc] at this;rw[g2];exact this
 obtain⟨w3,g6⟩:∃ w3,w3=w2.alloc (.cells #[.int .i64 kf,.int .i64 kc] 3):=⟨_,rfl⟩;have gl:Hid (_=w3):=Hd g6.symm;have g8:Below w2.heap.size w2 w3:=by rw[g6];exact Zad _ _
 have g4:Below w.heap.size w w3:=gb.trans (g8.mono gb.size);have h3:=h.below g4;have hz:Zay w3 (some ⟨w2.heap.size,0,none⟩) [kf,kc]:=by rw[g6];exact Zes w2 [kf,kc] (by simp)
 have g5:=Hd (Zd9 h3 (c:=2) hz (er:=0) (.inl ⟨rfl,fun k hk=>by
  simp only[List.mem_cons,List.not_mem_nil,or_false] at hk;rcases hk with rfl|rfl
  . exact⟨F,hf⟩
  . exact⟨G,hc⟩⟩))
 have c0:=cell1 g0;have c1:=cell1 g1;have d0:w3.heap[w.heap.size]?=some (.cells #[.int .i64 kf] 3 (0,0)):=(g8.block _ (Array.getElem?_eq_some_iff.1 g0).1).trans g0;have d1:w3.heap[w.heap.size+1]?=some (.cells #[.int .i64 kc] 3 (0,0)):=(g8.block _ (Array.getElem?_eq_some_iff.1 g1).1).trans g1;have k0:=cell1 d0;have k1:=cell1 d1;have n0:o w.heap.size=none:=h.lt.none (Nat.le_refl _);have n1:o (w.heap.size+1)=none:=h.lt.none (by omega);have g3:=ChgX.of_below g4 o NoB;have gd:w0.heap.size<=w.heap.size:=h.chg.size;obtain⟨P,hP⟩:∃ P:Ending->World->Prop,P=SqP n room w0 mb fs nx ws0 F G b o w:=⟨_,rfl⟩
 have gc:Hid (Calls prog 42 #[.pointer (some ⟨mb,0,none⟩),.int .i64 kf,.int .i64 kc] w3 fun x w4=>x=.returned (.tuple #[.bool b,.int .i64 0])/\w4.cell? ⟨w.heap.size,0,none⟩=some (.int .i64 kf)/\w4.cell? ⟨w.heap.size+1,0,none⟩=some (.int .i64 kc) /\
  (b=false->P (.returned (.tuple #[.int .i64 0,.int .i64 1])) w4)/\(b=true->Calls prog 35 #[.pointer (some ⟨mb,0,none⟩),.func (.func 43) #[] #[.pointer (some ⟨w.heap.size,0,none⟩),.pointer (some ⟨w.heap.size+1,0,none⟩)]] w4 fun x w'=>∃ p q,x=.returned (.tuple #[.int .i64 p,.int .i64 q])/\P x w')):=Hd (by
  refine(Zu6 Zb1 h3 hf hc hb hst hn (by omega)).mono ?_;rintro x w4 ⟨rfl,o4,m4,V4,q1,q2,q3⟩;have e0:w4.heap[w.heap.size]?=some (.cells #[.int .i64 kf] 3 (0,0)):=(q1.block _ (Array.getElem?_eq_some_iff.1 d0).1 n0 (fun e=>e)).trans d0;have e1:w4.heap[w.heap.size+1]?=some (.cells #[.int .i64 kc] 3 (0,0)):=(q1.block _ (Array.getElem?_eq_some_iff.1 d1).1 n1 (fun e=>e)).trans d1;have n40:o4 w.heap.size=none:=q1.none' (Array.getElem?_eq_some_iff.1 d0).1 n0;have n41:o4 (w.heap.size+1)=none:=q1.none' (Array.getElem?_eq_some_iff.1 d1).1 n1;refine⟨rfl,cell1 e0,cell1 e1,fun gk=>?_,fun gi=>?_⟩
  . rw[hP];exact .inr ⟨gk,rfl,o4,m4,V4,g3.trans q1 (fun _ _ e=>e),q2,q3⟩
  .
   have gj:=Zpl.1 (hb.1 gi)
   refine(Ya1 (K:=Za5) (C:=fun q=>q=w.heap.size\/q=w.heap.size+1) (B:=fun W=>W.heap[w.heap.size]?=some (.cells #[.int .i64 kf] 3 (0,0))/\W.heap[w.heap.size+1]?=some (.cells #[.int .i64 kc] 3 (0,0))) (A:=fun ord R=>SqR n ord F G R) (k:=(2^n-1)+(2^n-1)*2^n) (lop:=#[.pointer (some ⟨w.heap.size,0,none⟩),.pointer (some ⟨w.heap.size+1,0,none⟩)]) Zb1 Zk5 ws0
    (fun W W' hB hk=>⟨(hk _ (.inl rfl)).trans hB.1,(hk _ (.inr rfl)).trans hB.2⟩)
    (fun o W m V xb hs hB hC hx _=>?_) q3 (Below.refl _ _) (by
     rintro q (rfl|rfl)
     . exact⟨(Array.getElem?_eq_some_iff.1 e0).1,.inr ⟨gd,n40,fun W hW=>hW.1.trans e0.symm⟩⟩
     . exact⟨(Array.getElem?_eq_some_iff.1 e1).1,.inr ⟨by omega,n41,fun W hW=>hW.2.trans e1.symm⟩⟩) ⟨e0,e1⟩ q2 hn hr).mono ?_
   . obtain⟨f,ge,gf⟩:=hs.find hf;obtain⟨e,gh,gg⟩:=hs.find hc;have g7:=Zuz hs.is hs.lt hx hs.ok.store hs.vars hs.ok.handles.nodup ge gh (hs.ok.handles.ok _ ge) (hs.ok.handles.ok _ gh) (by rw[show ef V f=F from gf,show ef V e=G from gg];exact gj) (cell1 hB.1) (cell1 hB.2);rw[show ef V f=F from gf,show ef V e=G from gg] at g7;exact g7
   . rintro x w' ⟨q4,R,o',m',V',q5,q6,q7,q8⟩;refine⟨nx,0,q4,?_⟩;rw[hP];exact .inl ⟨gi,q4,R,o',m',V',(g3.trans q1 (fun _ _ e=>e)).trans q5 (fun _ _ e=>e),q6,q7,q8⟩)
 rw[<- hP];clear hP g2 g6 gb g8 g4 h3 hz h hf hc hb hst hn hr g3 d0 d1 n0 n1 g0 g1 gd
 go_enter func11,ntmps11
 go_upto_region 1 with fail;rw[gm.out];go_wp2_with fail;rw[gl.out];refine g5.out.mono ?_;rintro x w' ⟨rfl,rfl⟩;go_wp2_with fail;refine gc.out.mono ?_;rintro x w4 ⟨rfl,e0,e1,ga,g9⟩;cases b with
 | false =>
   have HF:=Hd (ga rfl);clear ga g9 gc g5 k0 k1 c0 c1;go_wp2_with fail;exact HF.out
 | true =>
   have HD:=Hd (g9 rfl);clear ga g9 gc g5 k0 k1 c0 c1;go_wp2_with fail;refine HD.out.mono ?_;rintro x w5 ⟨p,q,rfl,hp⟩;have HF:=Hd hp;clear hp HD;go_wp2_with fail;exact HF.out
end
open Go.RowKit
section
variable {K:Law}{n:Nat}{Od:List Nat->Prop}{room:Nat}{w0 w:World}{mb:Nat}{fs:List (Int×BF)}{nx:Int}{o:Own}{m:ManD}{V:Nat->BF}
theorem Zju (h:SatE K n Od room w0 mb fs nx w o m V)(hn:n<=16){k:Int}{F:BF}(hk:(k,F)∈fs) :
 Calls prog 14 #[.pointer (some ⟨mb,0,none⟩),.int .i64 k,.int .i64 n] w fun x w'=>∃ v,x=.returned v/\OwnB w' w.heap.size v (tabB n F)/\Below w.heap.size w w':=by
 have gw:2^n<=65536:=Nat.pow_le_pow_right (n:=2) (by omega) hn;obtain⟨L,hL⟩:∃ L,L=2^n:=⟨_,rfl⟩;have gF:=Hd hL;obtain⟨T,hT⟩:∃ T,T=tabB n F:=⟨_,rfl⟩;have gb:Hid (T.length=L):=Hd (by rw[hT,Zar,hL]);have gy:Hid (∀ i,i<L->T.getD i false=F (Zcv (Zcy i n))):=Hd fun i hi=>by rw[hT,Zdc (by rw[<- hL];exact hi)]
 have gD:Hid (∀ W,Below w.heap.size w W->∀ u cs,Zbu W u cs->Calls prog 50 #[.pointer (some ⟨mb,0,none⟩),.int .i64 k,u] W fun x w'=>x=.returned (.tuple #[.bool (F (Zcv cs)),.int .i64 0])/\Below W.heap.size W w'):=Hd fun W hb u cs hu=>(h.below hb).eval hk hu
 obtain⟨P,hP⟩:∃ P:Ending->World->Prop,P=fun x w'=>∃ v,x=.returned v/\OwnB w' w.heap.size v (tabB n F)/\Below w.heap.size w w':=⟨_,rfl⟩
 have gp:Hid (∀ v W,OwnB W w.heap.size v T->Below w.heap.size w W->P (.returned v) W):=Hd fun v W h1 h2=>by
  rw[hP];exact⟨v,rfl,by rw[<- hT];exact h1,h2⟩
 obtain⟨w1,g6⟩:∃ w1,w1=w.alloc (.cells #[] 4):=⟨_,rfl⟩;have HW1:Hid (_=w1):=Hd g6.symm;have ge:Hid (Below w.heap.size w w1):=by rw[g6];exact Hd (Zad _ _)
 have gk:Hid (OwnB w1 w.heap.size (.slice (some ⟨w.heap.size,0,none⟩) 0 0) (T.take 0)):=by rw[g6];exact Hd (Zem 4 w _ (Nat.le_refl _))
 have gm:Hid (Calls prog 34 #[.bool true,.int .i64 n] w1 fun x w'=>∃ g,x=.returned (.slice (some ⟨g,0,none⟩) L L)/\Below w1.heap.size w1 w'):=Hd (by
  rw[hL];exact(Zjy true n hn w1).mono fun x w' ⟨g,h1,_,h2⟩=>⟨g,h1,h2⟩)
 rw[<- hP];rw[<- hL] at gw;clear hP hL hT h hk g6
 go_enter func14,ntmps14
 go_upto_region 2 with fail;rw[HW1.out];go_wp2_with fail;refine gm.out.mono ?_;rintro x w2 ⟨g,rfl,ga⟩;have HB2:Hid (Below w.heap.size w w2):=Hd (ge.out.trans (ga.mono ge.out.size));have gj:Hid (OwnB w2 w.heap.size (.slice (some ⟨w.heap.size,0,none⟩) 0 0) (T.take 0)):=Hd (gk.out.below ga);clear ga gm ge gk;go_wp2_with fail
 go_loopw [7,9,10,11,12,13] (fun s7 s9 _ _ _ _ wr=>∃ j:Nat,j<=L/\s9=.int .i64 j/\Hid (OwnB wr w.heap.size s7 (T.take j))/\Hid (Below w.heap.size w wr)) (fun _ s9 _ _ _ _ _=>L-(intOf s9).toNat)
 case atStart=>exact⟨0,Nat.zero_le _,rfl,gj,HB2⟩
 case round =>
  clear gj HB2;obtain⟨j,hj,rfl,HR,HB⟩:=hrel;obtain⟨wo,gq⟩:∃ W,W=wr:=⟨_,rfl⟩;subst gq
  by_cases gt:j<L
  .
   have gu:(j:Int)<(L:Int):=by omega
   have gv:j<=1048576:=by omega
   have gh:Hid (T.take (j+1)=T.take j++[T.getD j false]):=Hd (by
    have hl:=gb.out;rw[List.take_succ_eq_append_getElem (by omega)];simp[List.getD,show j<T.length by omega])
   have gg:=Hd (gy.out j gt);obtain⟨y,hy⟩:∃ y,y=T.getD j false:=⟨_,rfl⟩;rw[<- hy] at gh gg;have gz:=Hd (fun v (hv:v<=20) W=>Zlx j v gv hv W);obtain⟨w3,g5⟩:∃ w3,w3=wo.alloc (.cells #[] 4):=⟨_,rfl⟩;have gx:Hid (_=w3):=Hd g5.symm;have go:Hid (Below wo.heap.size wo w3):=by rw[g5];exact Hd (Zad _ _)
   have gl:Hid (OwnB w3 wo.heap.size (.slice (some ⟨wo.heap.size,0,none⟩) 0 0) ((Zcy j n).take 0)):=by rw[g5];exact Hd (Zem 4 wo _ (Nat.le_refl _))
   clear hy g5;go_upto_region 7 with fail;rw[gx.out];go_wp2_with fail
   go_loopw [10,11] (fun s10 s11 wr=>∃ v:Nat,v<=n/\s11=.int .i64 v/\Hid (OwnB wr wo.heap.size s10 ((Zcy j n).take v))/\Hid (Below wo.heap.size wo wr)) (fun _ s11 _=>n-(intOf s11).toNat)
   case atStart=>exact⟨0,Nat.zero_le _,rfl,gl,go⟩
   case round =>
    clear gl go;obtain⟨v,hv,rfl,HL,g1⟩:=hrel
    by_cases gs:v<n
    .
     have gr:(v:Int)<(n:Int):=by omega
     have HT:=Hd (gz.out v (by omega) wr)
     have gn:Hid ((Zcy j n).take (v+1)=(Zcy j n).take v++[bitB j v]):=Hd (by
      rw[List.take_succ_eq_append_getElem (by rw[Zdo];exact gs)];simp[Zcy])
     obtain⟨z,hz⟩:∃ z,z=bitB j v:=⟨_,rfl⟩;rw[<- hz] at HT gn;have g7:(Zbj ((Zcy j n).take v)).length<1099511627776:=by rw[Zc5];simp[Zdo];omega
     have g2:=g1.out.size;clear hz;go_wp2_with fail;refine HT.out.mono ?_;rintro x w' ⟨rfl,rfl⟩;go_wp2_with (at_builtin;refine Zck Zdh wr rfl _ _ rfl wo.heap.size u10 (Zbj ((Zcy j n).take v)) (.bool z) rfl rfl rfl rfl rfl HL.out g7 g2 ?_;intro v5 w5 g0 r1 r2 r3 r4 g3);have g4:=Hd (Zgc g1.out HL.out r1 r2 r3 r4 g3 g2)
     have gB:Hid (OwnB w5 wo.heap.size v5 ((Zcy j n).take (v+1))):=Hd (by
      rw[gn.out];unfold OwnB;rw[show Zbj ((Zcy j n).take v++[z])=Zbj ((Zcy j n).take v)++[.bool z] by simp[Zbj]];exact g0)
     clear g0 r1 r2 r3 r4 g3 HL g1;go_wp2_with fail;go_roundw
     case rel=>exact⟨v+1,by omega,by go_num,gB,g4⟩
     case measure=>simp[intOf];omega
    .
     obtain rfl:n=v:=by omega
     have gr:¬ (n:Int)<(n:Int):=by omega
     have gf:Zbu wr u10 (Zcy j n):=by
      have:=HL.out;rw[List.take_of_length_le (by rw[Zdo];exact Nat.le_refl _)] at this;exact this.boolsIs (by rw[Zdo];omega)
     have g8:=HB.out.trans (g1.out.mono HB.out.size);have HE:=Hd (gD.out wr g8 _ _ gf);rw[<- gg.out] at HE;have gi:Hid (OwnB wr w.heap.size u7 (T.take j)):=Hd (HR.out.below g1.out);have gd:=Hd g8;clear gf g8 HL g1;go_wp2_with fail;refine HE.out.mono ?_;rintro x w4 ⟨rfl,g9⟩;have g4:Hid (Below w.heap.size w w4):=Hd (gd.out.trans (g9.mono gd.out.size));have gc:Hid (OwnB w4 w.heap.size u7 (T.take j)):=Hd (gi.out.below g9);have g7:(Zbj (T.take j)).length<1099511627776:=by rw[Zc5];have:=gb.out;simp;omega
     have g2:=g4.out.size;clear g9 gi gd HE;go_wp2_with (at_builtin;refine Zck Zdh w4 rfl _ _ rfl w.heap.size u7 (Zbj (T.take j)) (.bool y) rfl rfl rfl rfl rfl gc.out g7 g2 ?_;intro v5 w5 g0 r1 r2 r3 r4 g3);have gE:=Hd (Zgc g4.out gc.out r1 r2 r3 r4 g3 g2)
     have gA:Hid (OwnB w5 w.heap.size v5 (T.take (j+1))):=Hd (by
      rw[gh.out];unfold OwnB;rw[show Zbj (T.take j++[y])=Zbj (T.take j)++[.bool y] by simp[Zbj]];exact g0)
     clear g0 r1 r2 r3 r4 g3 gc g4;go_wp2_with fail;go_roundw
     case rel=>exact⟨j+1,by omega,by go_num,gA,gE⟩
     case measure=>simp[intOf];omega
  .
   obtain rfl:L=j:=by omega
   have gu:¬ (L:Int)<(L:Int):=by omega
   have gC:=Hd (gp.out u7 wo (by
    have:=HR.out
    rwa [List.take_of_length_le (by rw[gb.out];exact Nat.le_refl _)] at this) HB.out)
   clear HR HB;go_wp2_with fail;exact gC.out
end
open Go.RowKit
theorem Zlj {n c:Nat}(hc:c<=100):c*2^n+(2^n+(2^n-1)*2^n)<=Zb2 n:=by
 have h1:1<=2^n:=Nat.one_le_two_pow;have h2:2^(2*n)=2^n*2^n:=by rw[Nat.two_mul,Nat.pow_add]
 unfold Zb2;rw[h2]
 generalize 2^n=X at h1
 obtain⟨Y,rfl⟩:∃ Y,X=Y+1:=⟨X-1,by omega⟩;have h3:c*(Y+1)<=100*(Y+1):=Nat.mul_le_mul_right _ hc;simp only[Nat.add_sub_cancel,Nat.mul_add,Nat.add_mul] at h3 ⊢;omega
theorem Zz2 {n c:Nat}(hc:c<=100):c*2^n+(2^n-1)*2^n<=Zb2 n:=Nat.le_trans (Nat.add_le_add_left (Nat.le_add_left _ _) _) (Zlj (n:=n) hc)
section
variable {K:Law}{n room:Nat}{Od:List Nat->Prop}{w0 w:World}{mb:Nat}{fs:List (Int×BF)}{nx:Int}{o:Own}{m:ManD}{V:Nat->BF}
theorem SatE.ordLt (h:SatE K n Od room w0 mb fs nx w o m V):∀ v∈m.d.vars,v<n:=fun v hv=>by
 obtain⟨i,hi,e⟩:=List.getElem_of_mem hv;have:=(h.ok.store.vlt i hi).1;rw[show m.d.vars.getD i 0=m.d.vars[i] by simp[List.getD,hi],e,h.vars] at this;exact this
end
open Go.RowKit
section
variable {K:Law}{n room:Nat}{w0 w w' W:World}{mb:Nat}{fs:List (Int×BF)}{nx:Int}{o:Own}{m:ManD}{V:Nat->BF}{ws0:List Ev}{rs:List (Value×BF)}{F G:BF}{x y v:Value}
theorem nodes1 (hn:n<=6){os:List Nat}(hlen:os.length=n)(hlt:∀ v∈os,v<n)(hmem:∀ v,v<n->v∈os){ao:Option Addr}{co:Nat}(ht:TabA n w v F)(hd:DepF n F)(hos:Zay w ao (os.map Int.ofNat))(hn1:1<=n){T:World}(hT:T=w.alloc (.cells #[v] 34)) :
 Calls prog 16 #[.slice (some ⟨w.heap.size,0,none⟩) 1 1,.slice ao n co] T fun e w'=>e=.returned (.int .i64 (nodN n os F:Nat))/\Below w.heap.size w w':=by
 subst hT;have hb:=Zad w (.cells #[v] 34);have g0:=heap_alloc_new w (.cells #[v] 34);have h2:2^n<=64:=Nat.pow_le_pow_right (n:=2) (by omega) hn
 have:=Zqe (n:=n) (by omega) hlen hlt hmem (co:=co) (fc:=1) (Gs:=[F]) (fa:=some ⟨w.heap.size,0,none⟩) ⟨by simp,fun i hi=>by
  obtain rfl:i=0:=by simpa using hi
  exact⟨w.heap.size,0,v,rfl,by rw[cell_of_row _ _ 0 _ _ _ g0];rfl,ht.below hb⟩⟩ (by intro G hG;simp only[List.mem_singleton] at hG;subst hG;exact hd) (hos.below hb) (fun a ha=>by
   subst ha;obtain⟨b,off,e,hc⟩:=(hos.below hb).cells 0 (by simp;omega);cases e;exact Zab hc) (by simp;omega)
 rw[hlen] at this;refine this.mono ?_;rintro e w' ⟨rfl,g1⟩;exact⟨rfl,hb.trans (g1.mono hb.size)⟩
theorem Zun (hn:n<=16)(h1:TabA n w x F)(h2:TabA n w y G):Calls prog 9 #[x,y] w fun e w'=>∃ v,e=.returned v/\(∀ o,Zaj o w->LawF w' o v (tabB n (orF F G)))/\Below w.heap.size w w':=by
 have ge:=Hd (Zfe (w:=w) hn h1);have gd:Hid (∀ W,Below w.heap.size w W->Calls prog 39 #[y] W (RefT n (notF G) W)):=Hd fun W hb=>Zfe hn (h2.below hb)
 clear h1 h2
 go_enter func9,ntmps9
 go_wp2_with fail;refine ge.out.mono ?_;rintro e w1 ⟨u1,rfl,g7,g1⟩;have gg:=Hd g7;have gf:=Hd g1;have HN:=Hd (gd.out w1 g1);clear g7 g1 ge gd;go_wp2_with fail;refine HN.out.mono ?_;rintro e w2 ⟨u2,rfl,g6,g0⟩;have HA:=Hd (Zrs hn ((TabA.is gg.out).below g0) (TabA.is g6));have HB2:=Hd (gf.out.trans (g0.mono gf.out.size));clear g6 g0 HN;go_wp2_with fail;refine HA.out.mono ?_;rintro e w3 ⟨u3,rfl,g5,g9⟩;obtain⟨a3,c3,rfl,ga⟩:=TabA.is g5
 have gc:Hid (Calls prog 39 #[.slice a3 (2^n) c3] w3 fun x w'=>∃ g,x=.returned (.slice (some ⟨g,0,none⟩) (2^n) (2^n))/\OwnB w' w3.heap.size (.slice (some ⟨g,0,none⟩) (2^n) (2^n)) (tabB n (orF F G))/\Below w3.heap.size w3 w'):=Hd (by
  have:=Zm4 (tabB n (andF (notF F) (notF G))) a3 c3 w3 ga;rw[Zar,Ya5,Ya7] at this;exact this)
 have g3:=Hd (HB2.out.trans (g9.mono HB2.out.size));clear g5 g9 HA ga;go_wp2_with fail;refine gc.out.mono ?_;rintro e w4 ⟨g,rfl,g4,g8⟩;have gb:=Hd g4;have HF:Hid (Below w.heap.size w w4):=Hd (g3.out.trans (g8.mono g3.out.size));clear g4 g8 gc;go_wp2_with fail;go_ret;refine⟨_,rfl,fun o ho=>⟨gb.out.boolsIs (by rw[Zar];exact tabs16 hn),fun k hk=>?_⟩,HF.out⟩;rcases gb.out.2 with ⟨hv,_⟩|⟨g2,cap,cur,hv,hb,hg,_⟩
 . cases hv
 .
  rw[hv] at hk;have e2:k=g2:=by simpa [Value.ownBlock] using hk.symm
  subst e2;exact⟨(Array.getElem?_eq_some_iff.1 hg).1,ho.none (Nat.le_trans g3.out.size hb),cur,hg⟩
end
end Go.Proofs.YteohpagjkaaboaaGreat

namespace Go.Proofs.YteohpagjkaaboaaGreat
open Go.Proofs.Tryz
open Go.RowKit Go.Deep Go.ChangeShapes Go.WideShapes
theorem Ybe {x:Int}(h:(Lit.int .u8 x).wf=true):∃ k:Nat,x=(k:Int)/\k<256:=by
 simp only[Lit.wf,IntKind.min,IntKind.max,IntKind.signed,IntKind.bits,Bool.and_eq_true,decide_eq_true_eq] at h;simp at h;exact⟨x.toNat,by omega,by omega⟩
section
variable {H:Type}{enc:TypeId×Value->H}{P:Program}{w:World}{base:Nat}{spare:Nat->Bool}{held:Bool}
theorem Zr2 {t e:TypeId}{fuel:Nat}{c0 c1:Value}{x:DataW H×List MemPlace}(ht:P.underlying t=some (.array 2 e))(hce:P.cellsOf e=1)
 (h:DataW.trod enc P w base spare held fuel t [c0,c1]=some x) :
 ∃ y0 y1 n,DataW.trod enc P w base spare held n e [c0]=some y0/\DataW.trod enc P w base spare held n e [c1]=some y1:=by
 cases fuel with
 | zero=>simp[DataW.trod] at h
 | succ n =>
   unfold DataW.trod at h;rw[ht] at h;have r2:List.range 2=[0,1]:=rfl;simp[r2,hce] at h;obtain⟨_,h⟩:=h;cases h0:DataW.trod enc P w base spare held n e [c0] with
   | none=>simp[h0] at h
   | some y0 =>
     cases h1:DataW.trod enc P w base spare held n e [c1] with
     | none=>simp[h0,h1] at h
     | some y1=>exact⟨y0,y1,n,h0,h1⟩
end
theorem open_a2u8 {H:Type}{enc:TypeId×Value->H}{w:World}{base b0:Nat}{spare:Nat->Bool}{held:Bool}{r:Reach}{v:Value}{d:DataW H}{ps:List MemPlace}(hval:Value.okWide prog w r b0 27 v)(hd:DataW.Trod enc prog w base spare held 27 v d ps) :
 ∃ p0 p1:Nat,p0<256/\p1<256/\v=.agg #[.int .u8 p0,.int .u8 p1]:=by
 obtain⟨cs,rfl,g0⟩:∃ cs,v=.agg cs/\cs.size=prog.cellsOf 27:=by
  have h:=hval;simp[Value.okWide,underlying27] at h;obtain⟨cs,h1,h2,_⟩:=h;exact⟨cs,h1,h2⟩
 rw[show prog.cellsOf 27=2 by kernel_rfl] at g0;obtain⟨l⟩:=cs
 match l,g0 with
 | [c0,c1],_ =>
   obtain⟨fuel,hf⟩:=hd;obtain⟨y0,y1,m,g2,g1⟩:=Zr2 underlying27 (by kernel_rfl) hf;obtain⟨x0,e0,rfl,w0⟩:=DataW.trod_int underlying5 g2;obtain⟨x1,e1,rfl,w1⟩:=DataW.trod_int underlying5 g1;simp at e0 e1;subst e0 e1;obtain⟨p0,rfl,h0⟩:=Ybe w0;obtain⟨p1,rfl,h1⟩:=Ybe w1;exact⟨p0,p1,h0,h1,rfl⟩
end Go.Proofs.YteohpagjkaaboaaGreat

namespace Go.Proofs.YteohpagjkaaboaaGreat
open Go.Proofs.Tryz
open Go.RowKit Go.Deep Go.ChangeShapes Go.WideShapes
theorem wfI {x:Int}(h:(Lit.int .i64 x).wf=true):okI x:=by
 unfold okI;simp only[Lit.wf,IntKind.min,IntKind.max,IntKind.signed,IntKind.bits,Bool.and_eq_true,decide_eq_true_eq,if_true] at h;omega
theorem Zng {b off:Nat}(k:Nat):(⟨b,off,none⟩:Addr).add k=⟨b,off+k,none⟩:=by unfold Addr.add;split<;>simp_all
theorem add0 (a:Addr):a.add 0=a:=by simp[Addr.add]
theorem Zgi {w:World}{a:Addr}{v:Value}(h:w.cell? a=some v):a.spot=none:=by
 obtain⟨b,off,spot⟩:=a;cases spot with
 | none=>rfl
 | some s=>simp[World.cell?] at h;split at h<;>simp at h
theorem Zvy {n:Nat}{p:Nat->Ev->Prop}(h:∀ i,i<n->∃ x,p i x):∃ f:Nat->Ev,∀ i,i<n->p i (f i):=by
 classical
 refine⟨fun i=>if hi:i<n then Classical.choose (h i hi) else ⟨0,0,0⟩,fun i hi=>?_⟩;simp only[dif_pos hi];exact Classical.choose_spec (h i hi)
theorem Zn1 {H:Type}{enc:TypeId×Value->H}{P:Program}{w:World}{base:Nat}{spare:Nat->Bool}{held:Bool}{t e:TypeId}{fuel:Nat}{cs:List Value}{x:DataW H×List MemPlace}(ht:P.underlying t=some (.slice e))(h:DataW.trod enc P w base spare held fuel t cs=some x) :
 cs=[.slice none 0 0]\/∃ (a:Addr) (len cap n:Nat),cs=[.slice (some a) len cap]/\len<=cap/\cap<=maxLen/\fuel=n+1/\∀ i,i<len->∃ cs' y,w.cells? base (a.add (i*P.cellsOf e)) (P.cellsOf e)=some cs'/\DataW.trod enc P w base spare held n e cs'=some y:=by
 rcases DataW.trod_slice ht h with ⟨h0,_⟩|⟨a,len,cap,elems,rest,n,hn,e1,_,_,hl,hm,g1,g0,_⟩
 . exact .inl h0
 . refine .inr ⟨a,len,cap,n,e1,hl,hm,hn,fun i hi=>?_⟩;have:=g0 i hi;rw[List.getElem?_eq_getElem (by omega)] at this;obtain⟨cs',h1,h2⟩:=Option.bind_eq_some_iff.1 this;exact⟨cs',_,h1,h2⟩
theorem open_expr {H:Type}{enc:TypeId×Value->H}{w:World}{base:Nat}{spare:Nat->Bool}{held:Bool}:∀ (fuel:Nat) {cs:List Value} {x:DataW H×List MemPlace},
 DataW.trod enc prog w base spare held fuel 54 cs=some x->∃ e x0 x1 x2,cs=[x0,x1,x2]/\Zbf w e (.agg #[x0,x1,x2]):=by
 intro fuel
 induction fuel using Nat.strongRecOn with
 | _ fuel IH =>
   intro cs x h;obtain⟨xs,k,hk,g8,g5,g6,hf⟩:=DataW.trod_struct underlying54 h;have c1:prog.cellsOf 3=1:=by kernel_rfl
   have c2:prog.cellsOf 23=1:=by kernel_rfl
   have c3:prog.cellsOf 54=3:=by kernel_rfl
   rw[c3] at g5
   match xs,g6,cs,g5 with
   | [y0,y1,y2],_,[v0,v1,v2],_ =>
     have g0:=hf 0 _ rfl;have g1:=hf 1 _ rfl;have g2:=hf 2 _ rfl;simp[c1,c2] at g0 g1 g2;obtain⟨n0,e0,_,w0⟩:=DataW.trod_int underlying3 g0;obtain⟨n1,e1,_,w1⟩:=DataW.trod_int underlying3 g1;simp only[List.cons.injEq,and_true] at e0 e1;subst e0 e1;rcases Zn1 underlying23 g2 with e2|⟨a,len,cap,n,e2,hl,hm,g9,hx⟩
     . simp only[List.cons.injEq,and_true] at e2;subst e2;exact⟨.mk n0 n1 0 (fun _=>.nil),_,_,_,rfl,by unfold Zbf;exact⟨none,0,rfl,wfI w0,wfI w1,by omega,fun k hk=>by omega⟩⟩
     .
      simp only[List.cons.injEq,and_true] at e2;subst e2;have each:∀ i,i<len->∃ q:ExT,∃ x0 x1 x2,w.cell? (a.add (i*3))=some x0/\w.cell? ((a.add (i*3)).add 1)=some x1/\w.cell? ((a.add (i*3)).add 2)=some x2/\Zbf w q (.agg #[x0,x1,x2]):=by
       intro i hi;obtain⟨cs',y,h1,h2⟩:=hx i hi;rw[c3] at h1;obtain⟨_,g7,g3⟩:=World.cells?_some h1;obtain⟨e,x0,x1,x2,rfl,he⟩:=IH n (by omega) h2;have f0:=g3 0 (by omega);have f1:=g3 1 (by omega);have f2:=g3 2 (by omega);rw[add0] at f0;exact⟨e,x0,x1,x2,by simpa using f0,by simpa using f1,by simpa using f2,he⟩
      obtain⟨q,hq⟩:=choose_lt each;refine⟨.mk n0 n1 len q,_,_,_,rfl,?_⟩;unfold Zbf;refine⟨some a,cap,rfl,wfI w0,wfI w1,by unfold maxLen at hm;omega,fun i hi=>?_⟩;obtain⟨x0,x1,x2,f0,f1,f2,he⟩:=hq i hi;have g4:a.spot=none:=by
       obtain⟨_,_,_,q0,_⟩:=hq 0 (by omega);have:=Zgi q0;simpa [Addr.add] using this
      obtain⟨b,off,spot⟩:=a;dsimp only at g4;subst g4;simp only[Zng] at f0 f1 f2;exact⟨b,off,x0,x1,x2,rfl,f0,f1,f2,he⟩
theorem Zuc {H:Type}{enc:TypeId×Value->H}{w:World}{base:Nat}{spare:Nat->Bool}{held:Bool}{fuel:Nat}{cs:List Value}{x:DataW H×List MemPlace}
 (h:DataW.trod enc prog w base spare held fuel 23 cs=some x):∃ a l cap,cs=[.slice a l.length cap]/\Zkp w a l:=by
 have c3:prog.cellsOf 54=3:=by kernel_rfl
 rcases Zn1 underlying23 h with e2|⟨a,len,cap,n,e2,hl,hm,g4,hx⟩
 . exact⟨none,[],0,e2,⟨by simp,fun k hk=>by simp at hk⟩⟩
 .
  subst e2;have each:∀ i,i<len->∃ q:ExT,∃ x0 x1 x2,w.cell? (a.add (i*3))=some x0/\w.cell? ((a.add (i*3)).add 1)=some x1/\w.cell? ((a.add (i*3)).add 2)=some x2/\Zbf w q (.agg #[x0,x1,x2]):=by
   intro i hi;obtain⟨cs',y,h1,h2⟩:=hx i hi;rw[c3] at h1;obtain⟨_,g3,g0⟩:=World.cells?_some h1;obtain⟨e,x0,x1,x2,rfl,he⟩:=open_expr n h2;have f0:=g0 0 (by omega);have f1:=g0 1 (by omega);have f2:=g0 2 (by omega);rw[add0] at f0;exact⟨e,x0,x1,x2,by simpa using f0,by simpa using f1,by simpa using f2,he⟩
  obtain⟨q,hq⟩:=choose_lt each;refine⟨some a,(List.range len).map q,cap,by simp,⟨by unfold maxLen at hm;simp;omega,fun i hi=>?_⟩⟩;have g2:i<len:=by simpa using hi
  obtain⟨x0,x1,x2,f0,f1,f2,he⟩:=hq i g2;have g1:a.spot=none:=by
   obtain⟨_,_,_,q0,_⟩:=hq 0 (by omega);have:=Zgi q0;simpa [Addr.add] using this
  obtain⟨b,off,spot⟩:=a;dsimp only at g1;subst g1;simp only[Zng] at f0 f1 f2;exact⟨b,off,x0,x1,x2,rfl,f0,f1,f2,by simpa using he⟩
theorem open_evs {H:Type}{enc:TypeId×Value->H}{w:World}{base:Nat}{spare:Nat->Bool}{held:Bool}{fuel:Nat}{cs:List Value}{x:DataW H×List MemPlace}
 (h:DataW.trod enc prog w base spare held fuel 24 cs=some x):∃ a l cap,cs=[.slice a l.length cap]/\EvsAt w a l/\(∀ ev∈l,okI ev.after/\okI ev.kind/\okI ev.level)/\(a=none->cap=0)/\l.length<=cap/\cap<=maxLen:=by
 have c1:prog.cellsOf 3=1:=by kernel_rfl
 have c3:prog.cellsOf 52=3:=by kernel_rfl
 rcases Zn1 underlying24 h with e2|⟨a,len,cap,n,e2,hl,hm,ga,hx⟩
 . exact⟨none,[],0,e2,⟨by simp,fun k hk=>by simp at hk⟩,by simp,fun _=>rfl,by simp,by simp⟩
 .
  subst e2;have each:∀ i,i<len->∃ q:Ev,w.cell? (a.add (i*3))=some (.int .i64 q.after)/\w.cell? ((a.add (i*3)).add 1)=some (.int .i64 q.kind)/\w.cell? ((a.add (i*3)).add 2)=some (.int .i64 q.level)/\okI q.after/\okI q.kind/\okI q.level:=by
   intro i hi;obtain⟨cs',y,h1,h2⟩:=hx i hi;rw[c3] at h1;obtain⟨_,g5,g3⟩:=World.cells?_some h1;obtain⟨xs,k,hk,g9,_,g6,hf⟩:=DataW.trod_struct underlying52 h2
   match xs,g6,cs',g5 with
   | [y0,y1,y2],_,[v0,v1,v2],_ =>
     have g0:=hf 0 _ rfl;have g1:=hf 1 _ rfl;have g2:=hf 2 _ rfl;simp[c1] at g0 g1 g2;obtain⟨n0,e0,_,w0⟩:=DataW.trod_int underlying3 g0;obtain⟨n1,e1,_,w1⟩:=DataW.trod_int underlying3 g1;obtain⟨n2,e2,_,w2⟩:=DataW.trod_int underlying3 g2;simp only[List.cons.injEq,and_true] at e0 e1 e2;subst e0 e1 e2;have f0:=g3 0 (by omega);have f1:=g3 1 (by omega);have f2:=g3 2 (by omega);rw[add0] at f0;exact⟨⟨n0,n1,n2⟩,by simpa using f0,by simpa using f1,by simpa using f2,wfI w0,wfI w1,wfI w2⟩
  obtain⟨q,hq⟩:=Zvy each;refine⟨some a,(List.range len).map q,cap,by simp,⟨by unfold maxLen at hm;simp;omega,fun i hi=>?_⟩,?_,by simp,by simpa using hl,hm⟩
  .
   have g7:i<len:=by simpa using hi
   obtain⟨f0,f1,f2,_⟩:=hq i g7;have g4:a.spot=none:=by
    obtain⟨q0,_⟩:=hq 0 (by omega);have:=Zgi q0;simpa [Addr.add] using this
   obtain⟨b,off,spot⟩:=a;dsimp only at g4;subst g4;simp only[Zng] at f0 f1 f2;exact⟨b,off,rfl,by simpa using f0,by simpa using f1,by simpa using f2⟩
  . intro ev g8;obtain⟨i,hi,rfl⟩:=List.mem_map.1 g8;exact(hq i (by simpa using hi)).2.2.2
theorem open_ask {H:Type}{enc:TypeId×Value->H}{w:World}{base:Nat}{held:Bool}{fuel:Nat}{v:Value}{cs:Array Value}{x:DataW H×List MemPlace}(hv:v=.agg cs)
 (h:DataW.trod enc prog w base (fun _=>true) held fuel 26 v.cells.toList=some x):∃ q ao ae ap co ce cp,v=askV q ao ae ap co ce cp/\AskAt w q ao ae ap/\(∀ ev∈q.plan,okI ev.after/\okI ev.kind/\okI ev.level)/\(ao=none->co=0)/\(ap=none->cp=0)/\q.plan.length<=cp/\cp<=maxLen:=by
 subst hv;obtain⟨xs,k,hk,gh,g5,g7,hf⟩:=DataW.trod_struct underlying26 h;have c1:prog.cellsOf 3=1:=by kernel_rfl
 have c2:prog.cellsOf 22=1:=by kernel_rfl
 have c4:prog.cellsOf 23=1:=by kernel_rfl
 have c5:prog.cellsOf 24=1:=by kernel_rfl
 have c3:prog.cellsOf 26=4:=by kernel_rfl
 rw[c3] at g5;obtain⟨cl⟩:=cs;simp only[Value.cells] at g5 hf
 match xs,g7,cl,g5 with
 | [y0,y1,y2,y3],_,[v0,v1,v2,v3],_ =>
   have g0:=hf 0 _ rfl;have g1:=hf 1 _ rfl;have g2:=hf 2 _ rfl;have g3:=hf 3 _ rfl;simp[c1,c2,c4,c5] at g0 g1 g2 g3;obtain⟨n0,e0,_,w0⟩:=DataW.trod_int underlying3 g0;simp only[List.cons.injEq,and_true] at e0;subst e0;obtain⟨ao,zs,co,e1,ge,gb⟩:∃ a zs c,v1=.slice a zs.length c/\Zay w a zs/\(a=none->c=0):=by
    rcases open_ints underlying22 underlying3 (by kernel_rfl) g1 with ⟨g4,_⟩|⟨x,l,c,zs,g4,_,hl,hm,hz,_,g6,g8⟩
    . simp at g4;subst g4;obtain⟨a,c,e,h1,h2⟩:=sliceIs_of_row (w:=w) (a:=none) (len:=0) (cap:=0) (.inl ⟨rfl,rfl,rfl,rfl⟩);exact⟨a,_,c,e,h1,h2⟩
    . simp at g4;subst g4;obtain⟨a,c,e,h1,h2⟩:=sliceIs_of_row (w:=w) (.inr ⟨_,rfl,hl,hm,by simpa using hz,g6,g8⟩);exact⟨a,_,c,e,h1,h2⟩
   obtain⟨ae,es,ce,e2,gg⟩:=Zuc g2;obtain⟨ap,evs,cp,e3,gf,g9,ga,gd,gc⟩:=open_evs g3;simp only[List.cons.injEq,and_true] at e2 e3;subst e1 e2 e3;exact⟨⟨n0,zs,es,evs⟩,ao,ae,ap,co,ce,cp,rfl,⟨wfI w0,ge,gg,gf⟩,g9,gb,ga,gd,gc⟩
end Go.Proofs.YteohpagjkaaboaaGreat
