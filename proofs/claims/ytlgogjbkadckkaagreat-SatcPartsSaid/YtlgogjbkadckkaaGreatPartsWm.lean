/- The walk of a law: PartsW. -/
import Derived.Test.YtlgogjbkadckkaaGreatM8
set_option linter.unusedSimpArgs false
set_option linter.unusedVariables false
set_option linter.unusedSectionVars false
set_option linter.unnecessarySimpa false
set_option maxRecDepth 100000
set_option maxHeartbeats 8000000
namespace Go.Proofs.YtlgogjbkadckkaaGreat
open Go.RowKit
theorem Znp {P:Program} {S:World->Prop} {Q:Exit->Act->World->Prop} {R:List PanicEntry->World->Prop} {i:Nat} {pl:List Nat} {l:List Oper} {f:Nat} {L:Array Bool} {a:Act} {w:World} {o:Oper} (hi:l[i]?=some o) (hg:Region.wanted o (yielded l.toArray a.tmps)=true)
 (hB:(Region.noSelect l.toArray&&(Region.ready .any l.toArray L).contains i&&Region.free .any l.toArray L i)=true)
 (h:∃ v,(∀ w,S w->(execOp a.eval o).run P w=.ok (.value v) w)/\Nx pl P l Q R S f (L.setIfInBounds i true) (a.put o.dst v) w):Nx (i::pl) P l Q R S (f+1) L a w:=by
 obtain⟨v,h1,h2⟩:=h;exact Zmb i o v hi (by rw[hB];simp) (fun w _=>.inl ⟨hg,h1⟩) h2
theorem parts_walk (q:AskD) (ao ae ap:Option Addr) (co ce cp:Nat) (kf vm more:Int) (w:World) (h:AskAt w q ao ae ap) :
 Calls Tryz.prog 3 #[askV q ao ae ap co ce cp,.int .i64 kf,.int .i64 vm,.int .i64 more] w fun y w'=>y=.returned (.bool true)/\Below w.heap.size w w':=by
 have HSM:Hid (∀ W,Below w.heap.size w W->∀ u,u=askV q ao ae ap co ce cp->Calls Tryz.prog 5 #[u] W fun y w'=>∃ b,y=.returned (.bool b)/\(b=true->Zr6 q)/\Below W.heap.size W w'):=Hd fun W hb u hu=>by subst hu;exact Zx8 q ao ae ap co ce cp W (h.below hb)
 have HASK:=Hd h;obtain⟨vars,hvars⟩:∃ z,z=q.vars:=⟨_,rfl⟩;have HV:=Hd hvars;obtain⟨plen,hplen⟩:∃ z,z=q.plan.length:=⟨_,rfl⟩;unfold askV at HSM ⊢;rw[<- hvars,<- hplen] at HSM ⊢;obtain⟨olen,holen⟩:∃ z,z=q.order.length:=⟨_,rfl⟩;obtain⟨elen,helen⟩:∃ z,z=q.es.length:=⟨_,rfl⟩;have HELN:=Hd helen;rw[<- holen,<- helen] at HSM ⊢;obtain⟨w1,hw1⟩:∃ w1,w1=w.alloc (.cells #[.int .i64 vars,.slice ao olen co,.slice ae elen ce,.slice ap plen cp] 26):=⟨_,rfl⟩;have HW1:Hid (_=w1):=Hd hw1.symm;have HB1:Hid (Below w.heap.size w w1):=by rw[hw1];exact Hd (Zaf _ _)
 have hblk:w1.heap[w.heap.size]?=some (.cells #[.int .i64 vars,.slice ao olen co,.slice ae elen ce,.slice ap plen cp] 26 (0,0)):=by rw[hw1];exact heap_alloc_new _ _
 have d0:w1.cell? ⟨w.heap.size,0,none⟩=some (.int .i64 vars):=by rw[cell_of_row _ _ 0 _ _ _ hblk];rfl
 have d1:w1.cell? ⟨w.heap.size,1,none⟩=some (.slice ao olen co):=by rw[cell_of_row _ _ 1 _ _ _ hblk];rfl
 have d2:w1.cell? ⟨w.heap.size,2,none⟩=some (.slice ae elen ce):=by rw[cell_of_row _ _ 2 _ _ _ hblk];rfl
 have d3:w1.cell? ⟨w.heap.size,3,none⟩=some (.slice ap plen cp):=by rw[cell_of_row _ _ 3 _ _ _ hblk];rfl
 clear h hw1 hblk hvars hplen holen helen
 go_enter Tryz.func3,Tryz.ntmps3
 go_upto_region 1 with fail;rw[HW1.out];go_wp2_with fail;refine(HSM.out _ HB1.out _ rfl).mono ?_;rintro y w2 ⟨b,rfl,hb,hbel⟩;have HB:=Hd hb;have HBEL:=Hd (HB1.out.trans (hbel.mono HB1.out.size));have e0:=(hbel.cell (p:=⟨w.heap.size,0,none⟩) (Zab d0)).trans d0;have e1:=(hbel.cell (p:=⟨w.heap.size,1,none⟩) (Zab d1)).trans d1;have e2:=(hbel.cell (p:=⟨w.heap.size,2,none⟩) (Zab d2)).trans d2;have e3:=(hbel.cell (p:=⟨w.heap.size,3,none⟩) (Zab d3)).trans d3;have HLV:=Hd (Zkq w2);clear hb hbel HSM d0 d1 d2 d3 HW1;cases b with
 | false =>
   go_wp2_with fail;refine HLV.out.mono ?_;rintro y w3 ⟨rfl,hb3⟩;have HB3:=Hd (HBEL.out.trans (hb3.mono HBEL.out.size));clear hb3;go_wp2_with fail;go_ret;exact⟨rfl,HB3.out⟩
 | true =>
   have HSP:=Hd (HB.out (by first|rfl|trivial));obtain⟨L,hn⟩:∃ n:Nat,vars=(n:Nat):=⟨vars.toNat,by have:=HSP.out.lo;have:=HV.out;omega⟩;subst hn;have hn6:L<=6:=by have:=HSP.out.hi;have:=HV.out;omega
   have hn1:1<=L:=by have:=HSP.out.lo;have:=HV.out;omega
   have g64:IntKind.i64.wrap (64-(L:Int))=64-(L:Int):=IntWalk.i64_in _ (by omega)
   by_cases k1:vm<0
   ·
    go_wp2_with fail;refine HLV.out.mono ?_;rintro y w3 ⟨rfl,hb3⟩;have HB3:=Hd (HBEL.out.trans (hb3.mono HBEL.out.size));clear hb3;go_wp2_with fail;go_ret;exact⟨rfl,HB3.out⟩
   by_cases k2:vm>=(L:Int)
   ·
    go_wp2_with fail;refine HLV.out.mono ?_;rintro y w3 ⟨rfl,hb3⟩;have HB3:=Hd (HBEL.out.trans (hb3.mono HBEL.out.size));clear hb3;go_wp2_with fail;go_ret;exact⟨rfl,HB3.out⟩
   by_cases k3:more<0
   ·
    go_wp2_with fail;refine HLV.out.mono ?_;rintro y w3 ⟨rfl,hb3⟩;have HB3:=Hd (HBEL.out.trans (hb3.mono HBEL.out.size));clear hb3;go_wp2_with fail;go_ret;exact⟨rfl,HB3.out⟩
   by_cases k4:more>64-(L:Int)
   ·
    go_wp2_with fail;refine HLV.out.mono ?_;rintro y w3 ⟨rfl,hb3⟩;have HB3:=Hd (HBEL.out.trans (hb3.mono HBEL.out.size));clear hb3;go_wp2_with fail;go_ret;exact⟨rfl,HB3.out⟩
   obtain⟨v,rfl⟩:∃ v:Nat,vm=(v:Int):=⟨vm.toNat,by omega⟩;obtain⟨mo,rfl⟩:∃ v:Nat,more=(v:Int):=⟨more.toNat,by omega⟩;obtain⟨n,hnn⟩:∃ n,n=L+mo:=⟨_,rfl⟩;have hn64:n<=64:=by omega
   have hvn:v<n:=by omega
   have hLn:L<=n:=by omega
   have gadd:IntKind.i64.wrap ((L:Int)+(mo:Int))=(n:Int):=by rw[IntWalk.i64_in _ (by omega)];omega
   have HNEW:=Hd (Zzp (K:=Zhq) n 1048576 w2 hn64 (by omega) (by omega));have HLI:=Hd (fun W=>Zkq W);have HEL:=Hd (show elen=q.es.length from HELN.out);clear hnn HLV HB;go_wp2_with fail;refine HNEW.out.mono ?_;rintro y w3 ⟨mb,rfl,o3,m3,V3,hs3,hw3,hm3⟩;have HS3:=Hd (And.intro hs3 (And.intro hw3 hm3));have hb3:=hs3.chg.below0;have HB3:=Hd hb3;have HBX:=Hd (HBEL.out.trans (hb3.mono HBEL.out.size));have f0:=(hb3.cell (p:=⟨w.heap.size,0,none⟩) (Zab e0)).trans e0;have f2:=(hb3.cell (p:=⟨w.heap.size,2,none⟩) (Zab e2)).trans e2;have HE0:=Hd e0;have HE2:=Hd e2;clear hs3 hw3 hm3 hb3 HNEW e0 e1 e2 e3
   by_cases hel:elen=0
   ·
    subst hel;have HLV:=Hd (HLI.out w3);go_wp2_with fail;refine HLV.out.mono ?_;rintro y wZ ⟨rfl,hbZ⟩;have HZ:=Hd (HBX.out.trans (hbZ.mono HBX.out.size));clear hbZ;go_wp2_with fail;go_ret;exact⟨rfl,HZ.out⟩
   have hes5:elen<=5:=by have:=HSP.out.es;have:=HEL.out;omega
   have q1:Int.tmod kf elen<elen:=Int.tmod_lt_of_pos kf (by omega);have q2 : -(elen:Int)<Int.tmod kf elen:=by
    have:=Int.tmod_lt_of_pos (-kf) (show (0:Int)<elen by omega);rw[Int.neg_tmod] at this;omega
   obtain⟨i,hi,hI⟩:∃ i,i<elen/\Int.tmod (Int.tmod kf elen+elen) elen=((i:Nat):Int):=by
    refine⟨(Int.tmod (Int.tmod kf elen+elen) elen).toNat,?_,?_⟩
    ·
     have:=Int.tmod_lt_of_pos (Int.tmod kf elen+elen) (show (0:Int)<elen by omega);have:=Int.tmod_nonneg (elen:Int) (show 0<=Int.tmod kf elen+elen by omega);omega
    ·
     have:=Int.tmod_nonneg (elen:Int) (show 0<=Int.tmod kf elen+elen by omega);omega
   have hi2:i<q.es.length:=by rw[<- HEL.out];exact hi
   obtain⟨b,off,x0,x1,x2,ea,k0,k1',k2',hx⟩:=(HASK.out.below HBEL.out).es.cells i hi2;subst ea;obtain⟨zo,zv,za,zn,zc,rfl,rfl,rfl⟩:=hx.parts;have HEX:=HSP.out.expr _ (List.getElem_mem hi2);obtain⟨e,he⟩:∃ e,e=q.es[i]:=⟨_,rfl⟩;rw[<- he] at hx HEX;obtain⟨hsz,hokT,hvT⟩:=HEX;have hpw:e.size*2^L<=40*64:=Nat.mul_le_mul hsz (Nat.le_trans (Nat.pow_le_pow_right (by omega) hn6) (by decide));obtain⟨wq,hwq⟩:∃ W,W=w3.drew:=⟨_,rfl⟩;have hbq:Below w3.heap.size w3 wq:=by rw[hwq];exact Zah w3 1
   have HBU:=Hd (Zlw (L:=L) ⟨hLn,fun l hl=>hl⟩ Zf6 e _ two 2 wq o3 m3 V3 0 (HS3.out.1.below hbq) ⟨HS3.out.2.1,by rw[HS3.out.2.2];exact Nat.le_refl _⟩ Ydh hokT.valid (fun u hu=>by have:=hvT u hu;have:=HV.out;omega) hx (by omega) (by omega));obtain⟨F,hF⟩:∃ F,F=fnT e:=⟨_,rfl⟩;obtain⟨sz,hsze⟩:∃ sz,sz=e.size:=⟨_,rfl⟩;rw[<- hF] at HBU;rw[<- hsze] at HBU;rw[<- hsze] at hsz;have hEL:(i:Int)<(elen:Int):=by omega
   have hne:((elen:Int) == 0)=false:=by simp;omega
   have gw:IntKind.i64.wrap (Int.tmod kf elen+elen)=Int.tmod kf elen+elen:=IntWalk.i64_in _ (by omega);have HBQ:Hid (Below w2.heap.size w2 wq):=Hd (HB3.out.trans (hbq.mono HB3.out.size));have z2:=HE2.out;clear hx he hi2 hF hsze hokT hvT hpw f0;go_upto_region 6 with fail;clear f2;refine Zem [0,1,2,3,4,5,6,7,8,9,10,11,12,13,14,15,16,17,18,19,20,21,22,23] (fun W=>Below w2.heap.size w2 W) (fun ch w'=>False) (fun c a w hd h=>h.elim) (by kernel_rfl) (by rw[<- hwq];exact HBQ.out) ?_;rw[<- hwq]
   iterate 18
    refine Zcr rfl rfl (by kernel_rfl) ?_;apply Exists.intro;refine⟨fun w' hw=>?_,?_⟩
    ·
     have p2:=(hw.cell (p:=⟨w.heap.size,2,none⟩) (Zab z2)).trans z2;have p3:=(hw.cell (p:=⟨b,off+i*3,none⟩) (Zab k0)).trans k0;have p4:=(hw.cell (p:=⟨b,off+i*3+1,none⟩) (Zab k1')).trans k1';have p5:=(hw.cell (p:=⟨b,off+i*3+2,none⟩) (Zab k2')).trans k2';go_simp;rfl
    simp only[Zag]
   refine Zbb (R1:=fun v w'=>∃ p:Int,v=.tuple #[.int .i64 p,.bool true]/\p<=1000/\Goes Zhq n (fun l=>l=List.range n) 1048576 w2 mb (two++[(p,F)]) (p+1) (NoW (0+Zhb L sz)) o3 wq w') rfl (by kernel_rfl) rfl rfl (by go_simp) (HBU.out.mono fun e w' h=>?_) (by rintro v w' ⟨_,_,_,_,_,_,_,_,h⟩;exact h.chg.below0) ?_
   ·
    obtain⟨p,h1,h2,h3⟩:=h;exact⟨_,h1,p,rfl,by omega,h3⟩
   rintro v w4-⟨p,rfl,hp2,hg4⟩;clear hbq hwq hI gw q1 q2;simp only[Zag]
   iterate 5
    refine Zcr rfl rfl (by kernel_rfl) ?_;apply Exists.intro;refine⟨fun w' hw=>?_,?_⟩
    ·
     go_simp;rfl
    simp only[Zag]
   refine Zi8 (by kernel_rfl) ?_;have HG4:=Hd hg4;have HNT:=Hd (Zxl Zf6 hg4 (by omega) (k:=p) (F:=F) (by simp));clear hg4 HBU;go_wp2_with fail;refine HNT.out.mono ?_;rintro y w5 ⟨rfl,hg5⟩
   have HK5:Hid (StK Zhq n 1048576 w2 mb (two++[(p,F)]++[(p+1,notF F)]) (p+1+1) [] [] w5):=Hd (by
    obtain⟨o5,m5,V5,h1,h2,h3⟩:=hg5;exact⟨o5,m5,V5,by rw[h2.1];exact List.suffix_refl _,h3.withOd trivial,fun p hp=>by cases hp⟩)
   clear hg5 HNT HG4;have HW6:=Hd (HK5.out.ways (k:=p) (G:=F) (by simp) (Zpr w5) (c:=0) (Zjo (by simp) (by simp)));clear HK5;go_wp2_with fail;refine HW6.out.mono ?_;rintro y w6 ⟨v6,rfl,hk6⟩;have HK6:=Hd hk6;obtain⟨a6,l6,c6,rfl⟩:∃ a l c,v6=.slice a l c:=by
    obtain⟨a,c,e,_⟩:=hk6.nat (v:=v6) (x:=wayV n F []) (by simp);exact⟨a,_,c,e⟩
   clear hk6 HW6;have HW7:=Hd ((HK6.out.below (Zaf w6 _)).ways (k:=p) (G:=F) (by simp) (Zsm w6 (v:Int) false) (c:=1) (Zjo (fun p hp=>by simp at hp;subst hp;exact⟨by omega,by show (v:Int)<n;omega⟩) (by simp)));clear HK6;go_wp2_with fail;refine HW7.out.mono ?_;rintro y w7 ⟨v7,rfl,hk7⟩;have HK7:=Hd hk7;obtain⟨a7,l7,c7,rfl⟩:∃ a l c,v7=.slice a l c:=by
    obtain⟨a,c,e,_⟩:=hk7.nat (v:=v7) (x:=wayV n F [((v:Int),false)]) (by simp);exact⟨a,_,c,e⟩
   clear hk7 HW7;have HW8:=Hd ((HK7.out.below (Zaf w7 _)).ways (k:=p) (G:=F) (by simp) (Zsm w7 (v:Int) true) (c:=1) (Zjo (fun p hp=>by simp at hp;subst hp;exact⟨by omega,by show (v:Int)<n;omega⟩) (by simp)));clear HK7;go_wp2_with fail;refine HW8.out.mono ?_;rintro y w8 ⟨v8,rfl,hk8⟩;have HK8:=Hd hk8;obtain⟨a8,l8,c8,rfl⟩:∃ a l c,v8=.slice a l c:=by
    obtain⟨a,c,e,_⟩:=hk8.nat (v:=v8) (x:=wayV n F [((v:Int),true)]) (by simp);exact⟨a,_,c,e⟩
   clear hk8 HW8;have HW9:=Hd (HK8.out.ways (k:=(p+1)) (G:=(notF F)) (by simp) (Zpr w8) (c:=0) (Zjo (by simp) (by simp)));clear HK8;go_wp2_with fail;refine HW9.out.mono ?_;rintro y w9 ⟨v9,rfl,hk9⟩;have HK9:=Hd hk9;obtain⟨a9,l9,c9,rfl⟩:∃ a l c,v9=.slice a l c:=by
    obtain⟨a,c,e,_⟩:=hk9.nat (v:=v9) (x:=wayV n (notF F) []) (by simp);exact⟨a,_,c,e⟩
   clear hk9 HW9;have HN6:Hid (∀ W,Below w9.heap.size w9 W->NatV W (.slice a6 l6 c6) (wayV n F [])):=Hd fun W hb=>(HK9.out.nat (by simp)).below hb
   have HN9:Hid (∀ W,Below w9.heap.size w9 W->NatV W (.slice a9 l9 c9) (wayV n (notF F) [])):=Hd fun W hb=>(HK9.out.nat (by simp)).below hb
   have hle1:wayV n F []<=18446744073709551616:=Nat.le_trans (Ztl n F) (pow64le hn64);have hle2:wayV n (notF F) []<=18446744073709551616:=Nat.le_trans (Ztl n (notF F)) (pow64le hn64);have hpt:=Zu7 hvn F;have hcm:=Zms n F;obtain⟨wq,hwq⟩:∃ W,W=w9.drew:=⟨_,rfl⟩;have hbq:Below w9.heap.size w9 wq:=by rw[hwq];exact Zah w9 1
   have HBQ:=Hd hbq;have HAD:=Hd (Zvo (W:=wq) ((HK9.out.nat (v:=.slice a7 l7 c7) (x:=wayV n F [((v:Int),false)]) (by simp)).below hbq) ((HK9.out.nat (v:=.slice a8 l8 c8) (x:=wayV n F [((v:Int),true)]) (by simp)).below hbq) (by omega) (by omega) rfl);rw[hpt] at HAD;obtain⟨N,hN⟩:∃ N,N=wayV n F []:=⟨_,rfl⟩;obtain⟨M,hM⟩:∃ M,M=wayV n (notF F) []:=⟨_,rfl⟩;rw[<- hN] at HAD HN6 hle1 hcm;rw[<- hM] at HN9 hle2 hcm;have HBW:Hid (Below w.heap.size w w9):=Hd (HBEL.out.trans (HK9.out.below0.mono HBEL.out.size));have f9:=(HK9.out.below0.cell (p:=⟨w.heap.size,0,none⟩) (Zab HE0.out)).trans HE0.out;have HCM:=Hd hcm;clear hN hM hpt hcm HK9 hbq;go_upto_region 18 with fail;refine Zem [0,1,4,2,3,5,6,7,8,9,13,14,15,16,10,11,12,17,18,19,20,21,22,23,24] (fun W=>Below w9.heap.size w9 W) (fun ch w'=>False) (fun c a w hd h=>h.elim) (by kernel_rfl) (by rw[<- hwq];exact HBQ.out) ?_;rw[<- hwq];clear hwq
   iterate 3
    refine Zcr rfl rfl (by kernel_rfl) ?_;apply Exists.intro;refine⟨fun w' hw=>?_,?_⟩
    ·
     go_simp;rfl
    simp only[Zag]
   refine Znq rfl (by kernel_rfl) rfl (by go_simp;exact⟨rfl,rfl⟩) (by exact HBQ.out.trans ((Zaf _ _).mono HBQ.out.size)) ?_;simp only[Zag];refine Zbb (R1:=fun v w'=>NatV w' v N/\Below wq.heap.size wq w') rfl (by kernel_rfl) rfl rfl (by go_simp) (HAD.out.mono fun e w' ⟨v,h1,h2,h3⟩=>⟨v,h1,h2,h3⟩) (by rintro v w' ⟨_,h⟩;exact HBQ.out.trans (h.mono HBQ.out.size)) ?_;rintro v10 w10-⟨hn10,hb10⟩;have HB10:=Hd (HBQ.out.trans (hb10.mono HBQ.out.size));have HC10:=Hd (Ze2 hn10 (HN6.out w10 HB10.out));rw[show cmpZ N N=0 by unfold cmpZ;simp] at HC10;clear hn10 hb10 HAD HBQ;simp only[Zag];refine Zbb (R1:=fun v w'=>v=.int .i64 0/\Below w10.heap.size w10 w') rfl (by kernel_rfl) rfl rfl (by go_simp) (HC10.out.mono fun e w' ⟨h1,h2⟩=>⟨_,h1,rfl,h2⟩) (by rintro v w' ⟨_,h⟩;exact HB10.out.trans (h.mono HB10.out.size)) ?_;rintro v w11-⟨rfl,hb11⟩;have HB11:=Hd (HB10.out.trans (hb11.mono HB10.out.size));have HAD:=Hd (Zvo (HN6.out w11 HB11.out) (HN9.out w11 HB11.out) hle1 hle2 rfl);rw[HCM.out] at HAD;clear hb11 HC10 HB10;simp only[Zag]
   iterate 2
    refine Zcr rfl rfl (by kernel_rfl) ?_;apply Exists.intro;refine⟨fun w' hw=>?_,?_⟩
    ·
     go_simp;rfl
    simp only[Zag]
   iterate 2
    refine Znp rfl rfl (by kernel_rfl) ?_;apply Exists.intro;refine⟨fun w' hw=>?_,?_⟩
    ·
     go_simp;rfl
    simp only[Zag]
   iterate 4
    refine Znp rfl rfl (by kernel_rfl) ?_;apply Exists.intro;refine⟨fun w' hw=>?_,?_⟩
    ·
     have p0:=(hw.cell (p:=⟨w.heap.size,0,none⟩) (Zab f9)).trans f9;go_simp;rfl
    simp only[Zag]
   refine Znq rfl (by kernel_rfl) rfl (by go_simp;exact⟨rfl,rfl⟩) (by exact HB11.out.trans ((Zaf _ _).mono HB11.out.size)) ?_;simp only[Zag];refine Zbb (R1:=fun v w'=>NatV w' v (2^n)/\Below w11.heap.size w11 w') rfl (by kernel_rfl) rfl rfl (by go_simp) (HAD.out.mono fun e w' ⟨v,h1,h2,h3⟩=>⟨v,h1,h2,h3⟩) (by rintro v w' ⟨_,h⟩;exact HB11.out.trans (h.mono HB11.out.size)) ?_;rintro v12 w12-⟨hn12,hb12⟩;have HB12:=Hd (HB11.out.trans (hb12.mono HB11.out.size));have HN12:=Hd hn12;have HO:=Hd (Zhk (w:=w12) (n:=1) (by omega));clear hn12 hb12 HAD HB11;simp only[Zag];refine Zbb (R1:=fun v w'=>NatV w' v 1/\Below w12.heap.size w12 w') rfl (by kernel_rfl) rfl rfl (by go_simp) (HO.out.mono fun e w' ⟨⟨v,h1,h2⟩,h3⟩=>⟨v,h1,h2,h3⟩) (by rintro v w' ⟨_,h⟩;exact HB12.out.trans (h.mono HB12.out.size)) ?_;rintro v13 w13-⟨hn13,hb13⟩;have HB13:=Hd (HB12.out.trans (hb13.mono HB12.out.size));have HN13:=Hd (HN12.out.below hb13);have HSF:=Hd (Zow (k:=n) hn13 Ybq (by omega));rw[Nat.one_mul] at HSF;clear hn13 hb13 HO HB12 HN12;simp only[Zag];refine Zbb (R1:=fun v w'=>NatV w' v (2^n)/\Below w13.heap.size w13 w') rfl (by kernel_rfl) rfl rfl (by go_simp) (HSF.out.mono fun e w' ⟨⟨v,h1,h2⟩,h3⟩=>⟨v,h1,h2,h3⟩) (by rintro v w' ⟨_,h⟩;exact HB13.out.trans (h.mono HB13.out.size)) ?_;rintro v14 w14-⟨hn14,hb14⟩;have HB14:=Hd (HB13.out.trans (hb14.mono HB13.out.size));have HC14:=Hd (Ze2 (HN13.out.below hb14) hn14);rw[show cmpZ (2^n) (2^n)=0 by unfold cmpZ;simp] at HC14;clear hn14 hb14 HSF HB13 HN13;simp only[Zag];refine Zbb (R1:=fun v w'=>v=.int .i64 0/\Below w14.heap.size w14 w') rfl (by kernel_rfl) rfl rfl (by go_simp) (HC14.out.mono fun e w' ⟨h1,h2⟩=>⟨_,h1,rfl,h2⟩) (by rintro v w' ⟨_,h⟩;exact HB14.out.trans (h.mono HB14.out.size)) ?_;rintro v w15-⟨rfl,hb15⟩;have HB15:=Hd (HB14.out.trans (hb15.mono HB14.out.size));have HLV:=Hd (HLI.out w15);clear hb15 HC14 HB14;simp only[Zag];refine Znp rfl rfl (by kernel_rfl) ?_;apply Exists.intro;refine⟨fun w' hw=>?_,?_⟩
   ·
    go_simp;rfl
   simp only[Zag]
   iterate 2
    refine Zcr rfl rfl (by kernel_rfl) ?_;apply Exists.intro;refine⟨fun w' hw=>?_,?_⟩
    ·
     go_simp;rfl
    simp only[Zag]
   refine Zbb (R1:=fun v w'=>v=.bool true/\Below w15.heap.size w15 w') rfl (by kernel_rfl) rfl rfl (by go_simp) (HLV.out.mono fun e w' ⟨h1,h2⟩=>⟨_,h1,rfl,h2⟩) (by rintro v w' ⟨_,h⟩;exact HB15.out.trans (h.mono HB15.out.size)) ?_;rintro v w16-⟨rfl,hb16⟩;have HF:=Hd (HBW.out.trans ((HB15.out.trans (hb16.mono HB15.out.size)).mono HBW.out.size));clear hb16 HLV;simp only[Zag]
   iterate 2
    refine Zcr rfl rfl (by kernel_rfl) ?_;apply Exists.intro;refine⟨fun w' hw=>?_,?_⟩
    ·
     go_simp;rfl
    simp only[Zag]
   refine Zi8 (by kernel_rfl) ?_;clear f9;go_wp2_with fail;go_ret;exact⟨rfl,HF.out⟩
end Go.Proofs.YtlgogjbkadckkaaGreat
