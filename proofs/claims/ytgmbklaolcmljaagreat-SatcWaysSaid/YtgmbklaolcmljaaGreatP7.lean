/- Several texts in one file: contracts of the program's functions and what follows from them. -/
import Derived.Test.YtgmbklaolcmljaaGreatP6
import Derived.Laws.CopyOwn
import Derived.Maps.RangeRun
set_option linter.unusedSimpArgs false
set_option linter.unusedVariables false
set_option linter.unusedSectionVars false
set_option linter.unnecessarySimpa false
set_option maxRecDepth 100000
set_option maxHeartbeats 8000000
namespace Go.Proofs.YtgmbklaolcmljaaGreat
open Go.Proofs.Tryz
open Go.RowKit
def cntN:Nat->BF->(Nat->Bool)->Nat
 | 0,F,ρ=>if F ρ then 1 else 0
 | n+1,F,ρ=>cntN n F (upd ρ n false)+cntN n F (upd ρ n true)
theorem Zzv {F G:BF}(h:∀ ρ,F ρ=G ρ)(n:Nat)(ρ:Nat->Bool):cntN n F ρ=cntN n G ρ:=by rw[show F=G from funext h]
theorem Zmk (n:Nat)(ρ:Nat->Bool):cntN n (fun _=>true) ρ=2^n:=by
 induction n generalizing ρ with
 | zero=>rfl
 | succ n ih=>show cntN n _ _+cntN n _ _=_;rw[ih,ih,Nat.pow_succ];omega
theorem Znk (n:Nat)(F:BF)(ρ:Nat->Bool):cntN n (notF F) ρ+cntN n F ρ=2^n:=by
 induction n generalizing ρ with
 | zero=>show (if (!F ρ)=true then 1 else 0)+(if F ρ=true then 1 else 0)=1;cases F ρ<;>rfl
 | succ n ih =>
   have h1:=ih (upd ρ n false);have h2:=ih (upd ρ n true)
   show (cntN n (notF F) _+cntN n (notF F) _)+(cntN n F _+cntN n F _)=_
   rw[Nat.pow_succ];omega
theorem Ycv (n:Nat)(F:BF)(ρ:Nat->Bool):cntN n F ρ<=2^n:=by
 have:=Znk n F ρ;omega
theorem Zt4 (ρ:Nat->Bool){u v:Nat}(h:u≠v)(a b:Bool):upd (upd ρ u a) v b=upd (upd ρ v b) u a:=funext fun x=>by
 unfold upd
 by_cases h1:x=u<;>by_cases h2:x=v<;>simp_all
theorem Zdi (F:BF)(v:Nat)(b:Bool):∀ (n:Nat) (ρ:Nat->Bool),n<=v->cntN n (cofF F v b) ρ=cntN n F (upd ρ v b)
 | 0,ρ,_=>rfl
 | n+1,ρ,h=>by
   show cntN n _ _+cntN n _ _=cntN n _ _+cntN n _ _
   rw[Zdi F v b n _ (by omega),Zdi F v b n _ (by omega),Zt4 ρ (by omega) false b,Zt4 ρ (by omega) true b]
theorem Zkr (F:BF){v:Nat}:∀ (n:Nat) (ρ:Nat->Bool),v<n->cntN n (cofF F v false) ρ+cntN n (cofF F v true) ρ=2*cntN n F ρ
 | 0,_,h=>absurd h (by omega)
 | n+1,ρ,h=>by
   show (cntN n _ _+cntN n _ _)+(cntN n _ _+cntN n _ _)=2*(cntN n _ _+cntN n _ _)
   rcases Nat.lt_or_ge v n with c|c
   . have h1:=Zkr F n (upd ρ n false) c;have h2:=Zkr F n (upd ρ n true) c;omega
   ·obtain rfl:v=n:=by omega
    have e:∀ a b,upd (upd ρ v a) v b=upd ρ v b:=fun a b=>funext fun x=>by unfold upd;split<;>rfl
    rw[Zdi F v false v _ (Nat.le_refl _),Zdi F v false v _ (Nat.le_refl _),Zdi F v true v _ (Nat.le_refl _),Zdi F v true v _ (Nat.le_refl _),e,e,e,e];omega
def fixV (fx:Nat->Option Bool)(F:BF):BF:=fun ρ=>F fun v=>(fx v).getD (ρ v)
theorem Zz4 (fx:Nat->Option Bool)(F:BF):fixV fx (notF F)=notF (fixV fx F):=rfl
theorem Zxa {fx:Nat->Option Bool}{v:Nat}{b:Bool}(h:fx v=some b)(F:BF):fixV fx (cofF F v b)=fixV fx F:=funext fun ρ=>by
 show F _=F _
 congr 1;funext u
 by_cases e:u=v
 . subst e;simp[h]
 . simp[e]
theorem Zpq {fx:Nat->Option Bool}{v:Nat}(h:fx v=none)(F:BF)(b:Bool):fixV fx (cofF F v b)=cofF (fixV fx F) v b:=funext fun ρ=>by
 show F _=F _
 congr 1;funext u
 by_cases e:u=v
 . subst e;simp[h]
 . simp[e]
def totN (n:Nat)(fx:Nat->Option Bool)(F:BF):Nat:=cntN n (fixV fx F) fun _=>false
theorem Zzd (n:Nat)(fx:Nat->Option Bool):totN n fx (fun _=>true)=2^n:=Zmk n _
theorem Ybh (n:Nat)(fx:Nat->Option Bool)(F:BF):totN n fx (notF F)=2^n-totN n fx F:=by
 have:=Znk n (fixV fx F) fun _=>false
 unfold totN;rw[Zz4];omega
theorem Zzb (n:Nat)(fx:Nat->Option Bool)(F:BF):totN n fx F<=2^n:=Ycv _ _ _
theorem Zq6 {n:Nat}{fx:Nat->Option Bool}{v:Nat}{b:Bool}(h:fx v=some b)(F:BF):totN n fx (cofF F v b)=totN n fx F:=by
 unfold totN;rw[Zxa h]
theorem Zzc {n:Nat}{fx:Nat->Option Bool}{v:Nat}(h:fx v=none)(hv:v<n)(F:BF):(totN n fx (cofF F v false)+totN n fx (cofF F v true))/2=totN n fx F:=by
 unfold totN;rw[Zpq h,Zpq h,Zkr _ _ _ hv];omega
open Go.RowKit
theorem Zn1:Zlz prog 3 (Value.int .i64):=Zk3 underlying3
def mtL (met:List Nat):List (Int×Value):=met.map fun i:Nat=>((i:Int),(.bool true:Value))
theorem Zx6 (met:List Nat)(f:Nat):getL (mtL met) (f:Int)=if f∈met then some (.bool true) else none:=by
 by_cases h:f∈met
 ·rw[if_pos h];unfold getL;have:∀ (l:List Nat) (i:Nat),f∈l->(Zb9 (f:Int) (mtL l) i).map (·.2)=some (.bool true):=by
   intro l
   induction l with
   | nil=>intro i h;simp at h
   | cons x r ih =>
     intro i h
     show (if (x:Int)=(f:Int) then some (i,(.bool true:Value)) else Zb9 (f:Int) (mtL r) (i+1)).map (·.2)=_
     by_cases e:(x:Int)=(f:Int)
     . rw[if_pos e];rfl
     ·rw[if_neg e];refine ih _ ?_;rcases List.mem_cons.1 h with h|h
      . exact absurd (by rw[h]) e
      . exact h
  exact this met 0 h
 ·rw[if_neg h];refine Zcw.2 fun p hp=>?_
  obtain⟨i,hi,rfl⟩:=List.mem_map.1 hp;intro e;have e2:i=f:=Int.ofNat.inj e;rw[e2] at hi;exact h hi
theorem Zmy {w:World}{b:Nat}{met:List Nat}(h:Za5 w b (Value.int .i64) (mtL met))(f:Nat) :
 (Instr.lookup 127 (.map (some b)) (.int .i64 (f:Nat)) false).run prog w=.ok (.bool (decide (f∈met))) w:=by
 have:=h.lookup Zn1 underlying127 zeroValue4 (f:Int) false;rw[Zx6] at this
 by_cases c:f∈met
 . rw[if_pos c] at this;simpa [c] using this
 . rw[if_neg c] at this;simpa [c] using this
theorem Zvd {w:World}{b:Nat}{met:List Nat}(h:Za5 w b (Value.int .i64) (mtL met)){f:Nat}(hf:f∉met) :
 ∃ w',(Instr.mapUpdate 127 (.map (some b)) (.int .i64 (f:Nat)) (.bool true)).run prog w=.ok () w'/\Za5 w' b (Value.int .i64) (mtL (met++[f]))/\w.grownBy w' (some b):=by
 obtain⟨w',h1,h2,h3⟩:=h.update Zn1 underlying127 (f:Int) (.bool true);refine⟨w',h1,?_,h3⟩;have e:putL (f:Int) (.bool true) (mtL met)=mtL (met++[f]):=by
  have hg:=Zx6 met f;rw[if_neg hf] at hg;unfold getL at hg;unfold putL;cases hc:Zb9 (f:Int) (mtL met) 0 with
  | none=>simp[mtL]
  | some q=>rw[hc] at hg;simp at hg
 rw[<- e];exact h2
open Go.RowKit
section
variable {P:Program}{S:World->Prop}{Q:Exit->Act->World->Prop}{R:List PanicEntry->World->Prop}
def Nx (_:List Nat)(P:Program)(l:List Oper)(Q:Exit->Act->World->Prop)(R:List PanicEntry->World->Prop)(S:World->Prop)(f:Nat)(L:Array Bool)(a:Act)(w:World):Prop:=Znf P l Q R S l.length f L a w
theorem Zfw (pl:List Nat){id:Nat}{a:Act}{w:World}{l:List Oper}(S:World->Prop)(R:List PanicEntry->World->Prop)(hR:∀ c (a:Act) w,a.defers=[]->R c w->Q (.panic c) a w)(hm:P.follows .mixedOrders=true)(hS:S w.drew)
 (h:Nx pl P l Q R S l.length (Array.replicate l.toArray.size false) a w.drew):(Code.region id l.toArray true).wp P Q a w:=Zgy S R l.length hR hm hS h
theorem Zea {i:Nat}{pl:List Nat}{l:List Oper}{f:Nat}{L:Array Bool}{a:Act}{w:World}{o:Oper}(hi:l[i]?=some o)(hg:o.guard=none)
 (hB:(Region.noSelect l.toArray&&(Region.ready .any l.toArray L).contains i&&Region.free .any l.toArray L i)=true)
 (h:∃ v,(∀ w,S w->(execOp a.eval o).run P w=.ok (.value v) w)/\Nx pl P l Q R S f (L.setIfInBounds i true) (a.put o.dst v) w):Nx (i::pl) P l Q R S (f+1) L a w :=
 Zb5 _ hi hg (by rw[hB];simp) h
theorem Ydu {i:Nat}{pl:List Nat}{l:List Oper}{f:Nat}{L:Array Bool}{a:Act}{w:World}{o:Oper}{g:FuncId}{args:Array Value}{R1:Value->World->Prop}(hi:l[i]?=some o)(hr:decide (Region.ready .any l.toArray L=[i])=true)
 (hg:Region.wanted o (yielded l.toArray a.tmps)=true) (hd:a.defers=[]) (he:(execOp a.eval o).run P w=.ok (.enter g args) w)
 (hc:Calls P g args w fun e w'=>(∃ v,e=.returned v/\S w'/\R1 v w')\/(∃ ch,e=.panicked ch/\R ch w'))
 (h:∀ v w',S w'->R1 v w'->Nx pl P l Q R S f (L.setIfInBounds i true) (a.put o.dst v) w'):Nx (i::pl) P l Q R S (f+1) L a w:=by
 refine Zc6 [i] (by rw[Bool.and_eq_true];exact⟨hr,rfl⟩) fun j g1 hS o2 g0=>?_
 rw[List.mem_singleton] at g1;subst g1;rw[hi] at g0;cases g0;refine⟨hg,?_⟩;refine Zm0 (R:=fun v w'=>S w'/\R1 v w') (R2:=R) he (hc.mono ?_) (fun v w' hh=>⟨hh.1,h v w' hh.1 hh.2⟩) (fun ch w' hh=>⟨hd,hh⟩);rintro e w' (⟨v,h1,h2⟩|hh)
 . exact .inl ⟨v,h1,h2⟩
 . exact .inr hh
theorem Zbr {i:Nat}{pl:List Nat}{l:List Oper}{f:Nat}{L:Array Bool}{a:Act}{w:World}{o:Oper}{g:FuncId}{args:Array Value}{R1:Value->World->Prop}(hi:l[i]?=some o)(hr:decide (Region.ready .any l.toArray L=[i])=true)
 (hg:Region.wanted o (yielded l.toArray a.tmps)=true) (hd:a.defers=[]) (he:(execOp a.eval o).run P w=.ok (.enter g args) w)
 (hc:Calls P g args w fun e w'=>∃ v,e=.returned v/\R1 v w') (hS:∀ v w',R1 v w'->S w')
 (h:∀ v w',S w'->R1 v w'->Nx pl P l Q R S f (L.setIfInBounds i true) (a.put o.dst v) w'):Nx (i::pl) P l Q R S (f+1) L a w :=
 Ydu hi hr hg hd he (hc.mono fun e w' ⟨v,h1,h2⟩=>.inl ⟨v,h1,hS v w' h2,h2⟩) h
theorem Yaq {i:Nat}{pl:List Nat}{l:List Oper}{f:Nat}{L:Array Bool}{a:Act}{w w':World}{o:Oper}{t:TypeId}{s x:Operand}(hi:l[i]?=some o)(hr:decide (Region.ready .any l.toArray L=[i])=true)
 (hg:Region.wanted o (yielded l.toArray a.tmps)=true) (ho:o.op=.store t s x) (hs:(Instr.storeAt t (a.eval s) (a.eval x)).run P w=.ok () w') (hS:S w')
 (h:Nx pl P l Q R S f (L.setIfInBounds i true) (a.put o.dst undef) w'):Nx (i::pl) P l Q R S (f+1) L a w:=by
 refine Zc6 [i] (by rw[Bool.and_eq_true];exact⟨hr,rfl⟩) fun j g1 _ o2 g0=>?_
 rw[List.mem_singleton] at g1;subst g1;rw[hi] at g0;cases g0;exact⟨hg,Zm1 ho hs ⟨hS,h⟩⟩
theorem Yar {i:Nat}{pl:List Nat}{l:List Oper}{f:Nat}{L:Array Bool}{a:Act}{w w':World}{v:Value}{o:Oper}(hi:l[i]?=some o)(hr:decide (Region.ready .any l.toArray L=[i])=true)
 (hg:Region.wanted o (yielded l.toArray a.tmps)=true) (he:(execOp a.eval o).run P w=.ok (.value v) w') (hS:S w')
 (h:Nx pl P l Q R S f (L.setIfInBounds i true) (a.put o.dst v) w'):Nx (i::pl) P l Q R S (f+1) L a w:=by
 refine Zc6 [i] (by rw[Bool.and_eq_true];exact⟨hr,rfl⟩) fun j g1 _ o2 g0=>?_
 rw[List.mem_singleton] at g1;subst g1;rw[hi] at g0;cases g0;exact⟨hg,Zcb he ⟨hS,h⟩⟩
theorem Zld {l:List Oper}{L:Array Bool}{a:Act}{w:World}(hr:(Region.ready .any l.toArray L).isEmpty=true)(h:Q .normal a w):Nx [] P l Q R S 0 L a w:=Zp4 hr h
end
open Go.RowKit
open Go.RowKit
theorem Zx9 {P:Program}{S:World->Prop}{Q:Exit->Act->World->Prop}{R:List PanicEntry->World->Prop}{i:Nat}{pl:List Nat}{l:List Oper}{f:Nat}{L:Array Bool}{a:Act}{w w':World}{o:Oper}{t:TypeId}{m x y:Operand}(hi:l[i]?=some o)(hr:decide (Region.ready .any l.toArray L=[i])=true)
 (hg:Region.wanted o (yielded l.toArray a.tmps)=true) (ho:o.op=.mapUpdate t m x y) (hs:(Instr.mapUpdate t (a.eval m) (a.eval x) (a.eval y)).run P w=.ok () w') (hS:S w')
 (h:Nx pl P l Q R S f (L.setIfInBounds i true) (a.put o.dst undef) w'):Nx (i::pl) P l Q R S (f+1) L a w:=by
 refine Zc6 [i] (by rw[Bool.and_eq_true];exact⟨hr,rfl⟩) fun j g1 _ o2 g0=>?_
 rw[List.mem_singleton] at g1;subst g1;rw[hi] at g0;cases g0;refine⟨hg,?_⟩;unfold Oper.wp;simp only[execOp,ho,Sem.run_bind,hs,Result.andThen_ok];exact⟨hS,h⟩
section
variable {F:Phi}{mb:Nat}{o:Own}{m:ManD}{W W':World}
theorem Zed.other {C:Nat->Prop}(h:Zed F o W mb m)(hl:Zah o W)(hx:Wr C W W')(hC:∀ k,k<W.heap.size->C k->o k=none):Zed F o W' mb m:=by
 obtain⟨s,hm⟩:=h;exact⟨s,hm.keep (fun g r hg=>hx.keep g (hl g r hg) (fun e=>by have:=hC g (hl g r hg) e;rw[hg] at this;cases this)) (fun _ _ h=>h)⟩
end
open Go.RowKit
def valD:List Nat->Nat
 | []=>0
 | d::r=>d+4294967296*valD r
def OkD (ds:List Nat):Prop:=∀ d∈ds,d<4294967296
def Trim (ds:List Nat):Prop:=∀ k,ds.length=k+1->ds.getD k 0≠0
def digD (x:Nat):List Nat:=if h:x=0 then [] else x%4294967296::digD (x/4294967296)
decreasing_by omega
theorem Zbn:digD 0=[]:=by unfold digD;simp
theorem Zdy {x:Nat}(h:x≠0):digD x=x%4294967296::digD (x/4294967296):=by
 rw[digD];simp[h]
theorem Zw4:∀ ds:List Nat,OkD ds->Trim ds->digD (valD ds)=ds
 | [],_,_=>Zbn
 | d::r,ho,ht=>by
   have hd:d<4294967296:=ho d (List.mem_cons_self ..);have hr:OkD r:=fun x hx=>ho x (List.mem_cons_of_mem _ hx)
   cases r with
   | nil =>
     have hd0:d≠0:=ht 0 rfl;have hv:valD [d]=d:=by simp[valD]
     rw[hv,Zdy hd0,show d/4294967296=0 by omega,Zbn,show d%4294967296=d by omega]
   | cons e q =>
     have g1:Trim (e::q):=fun k hk=>by
      have:=ht (k+1) (by simpa using hk);simpa using this
     have ih:=Zw4 (e::q) hr g1;have g2:valD (e::q)≠0:=fun h0=>by
      rw[h0,Zbn] at ih;cases ih
     have hv:valD (d::e::q)=d+4294967296*valD (e::q):=rfl;obtain⟨v,g0⟩:∃ v,v=valD (e::q):=⟨_,rfl⟩;rw[hv,<- g0];rw[<- g0] at ih g2;rw[Zdy (by omega),show (d+4294967296*v)/4294967296=v by omega,show (d+4294967296*v)%4294967296=d by omega,ih]
theorem Zct (x:Nat):valD (digD x)=x:=by
 induction x using Nat.strongRecOn with
 | ind x ih =>
   by_cases h:x=0
   . subst h;rw[Zbn];rfl
   ·rw[Zdy h]
    show x%4294967296+4294967296*valD (digD (x/4294967296))=x
    rw[ih _ (by omega)];omega
theorem Zya (x:Nat):OkD (digD x):=by
 induction x using Nat.strongRecOn with
 | ind x ih =>
   by_cases h:x=0
   . subst h;rw[Zbn];intro d hd;cases hd
   ·rw[Zdy h];intro d hd;rcases List.mem_cons.1 hd with rfl|hd
    . omega
    . exact ih _ (by omega) d hd
theorem Ybi (x:Nat):Trim (digD x):=by
 induction x using Nat.strongRecOn with
 | ind x ih =>
   by_cases h:x=0
   . subst h;rw[Zbn];intro k hk;cases hk
   ·rw[Zdy h];intro k hk;cases k with
    | zero =>
      have h0:digD (x/4294967296)=[]:=List.eq_nil_of_length_eq_zero (by simpa using hk);have h1:x/4294967296=0:=by
       have:=Zct (x/4294967296);rw[h0] at this;exact this.symm
      show x%4294967296≠0
      omega
    | succ k =>
      have:=ih (x/4294967296) (by omega) k (by simpa using hk);simpa using this
theorem Zcj:∀ a b:List Nat,valD (a++b)=valD a+4294967296^a.length*valD b
 | [],b=>by simp[valD]
 | d::r,b=>by
   show d+4294967296*valD (r++b)=d+4294967296*valD r+_
   rw[Zcj r b,List.length_cons,Nat.pow_succ,Nat.mul_add,Nat.mul_comm (4294967296^r.length) 4294967296,Nat.mul_assoc,Nat.add_assoc]
theorem Zhh:∀ b:List Nat,(∀ d∈b,d=0)->valD b=0
 | [],_=>rfl
 | d::r,h=>by
   show d+4294967296*valD r=0
   rw[Zhh r fun x hx=>h x (List.mem_cons_of_mem _ hx),h d (List.mem_cons_self ..)]
theorem Zou:∀ ds:List Nat,OkD ds->valD ds<4294967296^ds.length
 | [],_=>by simp[valD]
 | d::r,h=>by
   have h1:=Zou r fun x hx=>h x (List.mem_cons_of_mem _ hx)
   have h2:=h d (List.mem_cons_self ..)
   show d+4294967296*valD r<4294967296^(r.length+1)
   rw[Nat.pow_succ,Nat.mul_comm]
   generalize 4294967296^r.length=p at *
   omega
theorem Zzh {ds:List Nat}{k:Nat}(ho:OkD ds)(hk:k<=ds.length)(hz:∀ j,k<=j->j<ds.length->ds.getD j 0=0)(hn:k=0\/ds.getD (k-1) 0≠0):digD (valD ds)=ds.take k:=by
 have hv:valD ds=valD (ds.take k):=by
  have:=Zcj (ds.take k) (ds.drop k);rw[List.take_append_drop] at this;rw[this,Zhh (ds.drop k) fun d hd=>?_]
  . simp
  ·obtain⟨i,hi,rfl⟩:=List.getElem_of_mem hd;have g1:k+i<ds.length:=by simp at hi;omega
   have:=hz (k+i) (by omega) g1;rw[List.getElem_drop];simpa [List.getD,List.getElem?_eq_getElem g1] using this
 rw[hv];refine Zw4 _ (fun d hd=>ho d (List.mem_of_mem_take hd)) fun j hj=>?_
 have hl:(ds.take k).length=k:=by simp;omega
 rw[hl] at hj;rcases hn with rfl|hn
 . cases hj
 ·rw[show k-1=j by omega] at hn;have g0:j<ds.length:=by omega
  simp only[List.getD,List.getElem?_eq_getElem g0] at hn;simp only[List.getD,List.getElem?_take,if_pos (show j<k by omega),List.getElem?_eq_getElem g0];exact hn
structure U32At (w:World)(a:Option Addr)(ds:List Nat):Prop where
 len:ds.length<=1000000
 ok:OkD ds
 cells:∀ k,k<ds.length->∃ b off,a=some ⟨b,off,none⟩/\w.cell? ⟨b,off+k,none⟩=some (.int .u32 (ds.getD k 0:Nat))
def NatV (w:World)(v:Value)(x:Nat):Prop:=∃ a c,v=.slice a (digD x).length c/\(digD x).length<=c/\c<=1000000/\U32At w a (digD x)
theorem U32At.below {w w':World}{a:Option Addr}{ds:List Nat}(h:U32At w a ds)(hb:Below w.heap.size w w'):U32At w' a ds :=
 ⟨h.len,h.ok,fun k hk=>by
  obtain⟨b,off,h1,h2⟩:=h.cells k hk;exact⟨b,off,h1,(hb.cell (p:=⟨b,off+k,none⟩) (Zab h2)).trans h2⟩⟩
theorem NatV.below {w w':World}{v:Value}{x:Nat}(h:NatV w v x)(hb:Below w.heap.size w w'):NatV w' v x:=by
 obtain⟨a,c,h1,h2,h3,h4⟩:=h;exact⟨a,c,h1,h2,h3,h4.below hb⟩
theorem U32At.take {w:World}{a:Option Addr}{ds:List Nat}(h:U32At w a ds)(k:Nat):U32At w a (ds.take k):=by
 refine⟨by have:=h.len;simp;omega,fun d hd=>h.ok d (List.mem_of_mem_take hd),fun j hj=>?_⟩;have g0:j<k/\j<ds.length:=by simpa [Nat.lt_min] using hj
 obtain⟨b,off,h1,h2⟩:=h.cells j g0.2;refine⟨b,off,h1,?_⟩;simp only[List.getD,List.getElem?_take,if_pos g0.1];exact h2
open Go.RowKit
theorem Zix {w:World}{a:Option Addr}{c:Nat}{ds:List Nat}(h:U32At w a ds)(hc:ds.length<=c)(hc2:c<=1000000) :
 Calls prog 72 #[.slice a ds.length c] w fun x w'=>(∃ k:Nat,x=.returned (.slice a k k)/\NatV w (.slice a k k) (valD ds))/\w=w':=by
 have HH:=Hd h;have g3:=h.len;obtain⟨P,hP⟩:∃ P:Ending->World->Prop,P=fun x w'=>(∃ k:Nat,x=.returned (.slice a k k)/\NatV w (.slice a k k) (valD ds))/\w=w':=⟨_,rfl⟩
 have g0:Hid (∀ k:Nat,k<=ds.length->(∀ j,k<=j->j<ds.length->ds.getD j 0=0)->(k=0\/ds.getD (k-1) 0≠0)->P (.returned (.slice a k k)) w):=Hd fun k h1 h2 h3=>by
  rw[hP];have e:=Zzh h.ok h1 h2 h3;have hl:(ds.take k).length=k:=by simp;omega
  refine⟨⟨k,rfl,a,k,?_,?_,by omega,?_⟩,rfl⟩
  . rw[e,hl]
  . rw[e,hl];exact Nat.le_refl _
  . rw[e];exact h.take k
 rw[<- hP];clear hP h
 go_enter func72,ntmps72
 go_wp2_with fail
 go_loopw [3] (fun s3 wr=>∃ k:Nat,k<=ds.length/\s3=.int .i64 k/\Hid (∀ j,k<=j->j<ds.length->ds.getD j 0=0)/\Hid (wr=w)) (fun s3 _=>(intOf s3).toNat)
 case atStart=>exact⟨ds.length,Nat.le_refl _,rfl,Hd (fun j h1 h2=>absurd h2 (by omega)),Hd rfl⟩
 case round =>
  obtain⟨k,hk,rfl,HZ,HW⟩:=hrel;have hw:=HW.out;subst hw;have g6:(k:Int)<=(c:Int):=by omega
  by_cases hp:0<k
  ·have g5:(0:Int)<(k:Int):=by omega
   obtain⟨b,off,rfl,ck⟩:=HH.out.cells (k-1) (by omega);have g1:(k:Int)-1=((k-1:Nat):Int):=by omega
   have g7:k-1<ds.length:=by omega
   have g4:((k-1:Nat):Int)<(ds.length:Int):=by omega
   by_cases hz:ds.getD (k-1) 0=0
   ·rw[hz] at ck;have g2:Hid (∀ j,k-1<=j->j<ds.length->ds.getD j 0=0):=Hd fun j h1 h2=>by
     rcases Nat.lt_or_ge j k with c1|c1
     . rw[show j=k-1 by omega];exact hz
     . exact HZ.out j c1 h2
    clear hz g0 HZ;go_wp2_with fail;go_roundw
    case rel=>exact⟨k-1,by omega,by first|rfl|rw[<- g1],g2,Hd trivial⟩
    case measure=>simp[intOf];omega
   ·obtain⟨d,hd⟩:∃ d,d=ds.getD (k-1) 0:=⟨_,rfl⟩;rw[<- hd] at ck;have g9:¬ d=0:=by rw[hd];exact hz
    have g8:¬ (d:Int)=0:=by omega
    clear hd;have HF:=Hd (g0.out k hk HZ.out (.inr hz));clear hz g0 HZ;go_wp2_with fail;exact HF.out
  ·obtain rfl:k=0:=by omega
   have HF:=Hd (g0.out 0 hk HZ.out (.inl rfl));clear g0 HZ;go_wp2_with fail;exact HF.out
theorem Zrm {w:World}{a:Option Addr}{c:Nat}{ds:List Nat}(h:U32At w a ds)(hc:ds.length<=c)(hc2:c<=1000000) :
 Calls prog 72 #[.slice a ds.length c] w fun x w'=>(∃ v,x=.returned v/\NatV w v (valD ds))/\w=w' :=
 (Zix h hc hc2).mono fun _ _ ⟨⟨_,h1,h2⟩,h3⟩=>⟨⟨_,h1,h2⟩,h3⟩
theorem Zfq {w:World}{g:Nat}{c:Nat}{ds:List Nat}(h:U32At w (some ⟨g,0,none⟩) ds)(hc:ds.length<=c)(hc2:c<=1000000) :
 Calls prog 72 #[.slice (some ⟨g,0,none⟩) ds.length c] w fun x w'=>(∃ v,x=.returned v/\NatV w v (valD ds)/\∀ q,v.ownBlock=some q->q=g)/\w=w' :=
 (Zix h hc hc2).mono fun _ _ ⟨⟨_,h1,h2⟩,h3⟩=>⟨⟨_,h1,h2,fun _ e=>(Option.some.inj e).symm⟩,h3⟩
open Go.RowKit
theorem Zzw {w:World}{n:Nat}(hn:n<18446744073709551616) :
 Calls prog 21 #[.int .u64 n] w fun x w'=>(∃ v,x=.returned v/\NatV w' v n/\∀ q,v.ownBlock=some q->w.heap.size<=q)/\Below w.heap.size w w':=by
 obtain⟨w1,g0⟩:∃ w1,w1=w.alloc (.cells #[.int .u32 ((n:Int)%4294967296),.int .u32 ((n:Int)/4294967296)] 131):=⟨_,rfl⟩;have g1:w1.heap[w.heap.size]?=some (.cells #[.int .u32 ((n:Int)%4294967296),.int .u32 ((n:Int)/4294967296)] 131 (0,0)):=by rw[g0];exact heap_alloc_new _ _
 have g2:Below w.heap.size w w1:=by rw[g0];exact Zaf _ _
 have hu:U32At w1 (some ⟨w.heap.size,0,none⟩) [n%4294967296,n/4294967296]:=by
  refine⟨by simp,fun d hd=>?_,fun k hk=>⟨_,_,rfl,?_⟩⟩
  . simp at hd;omega
  ·rw[cell_of_row _ _ _ _ _ _ g1];have g3:k<2:=by simpa using hk
   rcases(show k=0\/k=1 by omega) with rfl|rfl
   ·show some (Value.int .u32 ((n:Int)%4294967296))=some (.int .u32 ((n%4294967296:Nat):Int))
    rw[show ((n%4294967296:Nat):Int)=(n:Int)%4294967296 by omega]
   ·show some (Value.int .u32 ((n:Int)/4294967296))=some (.int .u32 ((n/4294967296:Nat):Int))
    rw[show ((n/4294967296:Nat):Int)=(n:Int)/4294967296 by omega]
 have hT:=Zfq (c:=2) hu (by simp) (by omega);have hv:valD [n%4294967296,n/4294967296]=n:=by
  show n%4294967296+4294967296*(n/4294967296+4294967296*0)=n
  omega
 rw[hv] at hT
 have HT:Hid (Calls prog 72 #[.slice (some ⟨w.heap.size,0,none⟩) 2 2] w1 fun x w'=>∃ v,x=.returned v/\(NatV w' v n/\∀ q,v.ownBlock=some q->w.heap.size<=q)/\Below w.heap.size w w'):=Hd (hT.mono (by
  rintro x w' ⟨⟨v,rfl,h,hq⟩,rfl⟩;exact⟨v,rfl,⟨h,fun q e=>by rw[hq q e];exact Nat.le_refl _⟩,g2⟩))
 rw[g0] at HT;clear hT hu g2 g1 g0 hv
 go_enter func21,ntmps21
 go_wp2_with fail;refine HT.out.mono ?_;rintro x w' ⟨v,rfl,h1,h2⟩;have HF:=Hd (show (∃ v',Ending.returned v=.returned v'/\NatV w' v' n/\∀ q,v'.ownBlock=some q->w.heap.size<=q)/\Below w.heap.size w w' from ⟨⟨v,rfl,h1⟩,h2⟩);clear h1 h2 HT;go_wp2_with fail;go_ret;exact HF.out
theorem Zks {w:World}{n:Nat}(hn:n<18446744073709551616) :
 Calls prog 21 #[.int .u64 n] w fun x w'=>(∃ v,x=.returned v/\NatV w' v n)/\Below w.heap.size w w' :=
 (Zzw hn).mono fun _ _ ⟨⟨v,h1,h2,_⟩,h3⟩=>⟨⟨v,h1,h2⟩,h3⟩
open Go.RowKit
def cmpZ (x y:Nat):Int:=if x<y then -1 else if y<x then 1 else 0
theorem Zhx {w:World}{v:Value}{x:Nat}(h:NatV w v x):Calls prog 72 #[v] w fun e w'=>(∃ v',e=.returned v'/\NatV w v' x)/\w=w':=by
 obtain⟨a,c,rfl,h1,h2,h3⟩:=h;have:=Zrm h3 h1 h2
 rwa [Zct] at this
theorem Yb0:∀ x n,n<(digD x).length->4294967296^n<=x:=by
 intro x
 induction x using Nat.strongRecOn with
 | ind x ih =>
   intro n hn
   by_cases h:x=0
   . subst h;rw[Zbn] at hn;cases hn
   ·rw[Zdy h] at hn;cases n with
    | zero=>simp;omega
    | succ n =>
      have:=ih (x/4294967296) (by omega) n (by simpa using hn);rw[Nat.pow_succ]
      generalize 4294967296^n=p at *
      omega
theorem Zsx (x:Nat):x<4294967296^(digD x).length:=by
 have:=Zou (digD x) (Zya x)
 rwa [Zct] at this
theorem Zrj {x y:Nat}(h:(digD x).length<(digD y).length):x<y:=Nat.lt_of_lt_of_le (Zsx x) (Yb0 y _ h)
theorem Zfe {ds:List Nat}{i:Nat}(hi:i<ds.length):ds.drop i=ds.getD i 0::ds.drop (i+1):=by
 rw[List.drop_eq_getElem_cons hi];simp[List.getD,List.getElem?_eq_getElem hi]
theorem Ycf {ds:List Nat}{i:Nat}(hi:i<ds.length):valD ds=valD (ds.take i)+4294967296^i*(ds.getD i 0+4294967296*valD (ds.drop (i+1))):=by
 have:=Zcj (ds.take i) (ds.drop i);rw[List.take_append_drop,Zfe hi,List.length_take,Nat.min_eq_left (by omega)] at this;exact this
theorem Zwt {a b:List Nat}{i:Nat}(hoa:OkD a)(ha:i<a.length)(hb:i<b.length)(ht:a.drop (i+1)=b.drop (i+1))(hlt:a.getD i 0<b.getD i 0):valD a<valD b:=by
 rw[Ycf ha,Ycf hb,ht];have h1:=Zou (a.take i) fun d hd=>hoa d (List.mem_of_mem_take hd)
 rw[List.length_take,Nat.min_eq_left (by omega)] at h1;have h2:=Nat.mul_le_mul_left (4294967296^i) (show a.getD i 0+4294967296*valD (b.drop (i+1))+1<=b.getD i 0+4294967296*valD (b.drop (i+1)) by omega);rw[Nat.mul_add,Nat.mul_one] at h2;omega
theorem Ziw {w:World}{v1 v2:Value}{x y:Nat}(h1:NatV w v1 x)(h2:NatV w v2 y) :
 Calls prog 18 #[v1,v2] w fun e w'=>e=.returned (.int .i64 (cmpZ x y))/\Below w.heap.size w w':=by
 have gc:=Hd (Zhx h1);have gb:=Hd (Zhx h2);obtain⟨P,hP⟩:∃ P:Ending->World->Prop,P=fun e w'=>e=.returned (.int .i64 (cmpZ x y))/\Below w.heap.size w w':=⟨_,rfl⟩
 have g0:Hid (∀ w',x<y->Below w.heap.size w w'->P (.returned (.int .i64 (-1))) w'):=Hd fun w' h hb=>by rw[hP];unfold cmpZ;rw[if_pos h];exact⟨rfl,hb⟩
 have g1:Hid (∀ w',y<x->Below w.heap.size w w'->P (.returned (.int .i64 1)) w'):=Hd fun w' h hb=>by rw[hP];unfold cmpZ;rw[if_neg (by omega),if_pos h];exact⟨rfl,hb⟩
 have g6:Hid (∀ w',x=y->Below w.heap.size w w'->P (.returned (.int .i64 0)) w'):=Hd fun w' h hb=>by rw[hP];unfold cmpZ;rw[if_neg (by omega),if_neg (by omega)];exact⟨rfl,hb⟩
 rw[<- hP];clear hP h1 h2
 go_enter func18,ntmps18
 go_wp2_with fail;refine gc.out.mono ?_;rintro e w' ⟨⟨v1',rfl,ge⟩,rfl⟩;obtain⟨a1,c1,rfl,k1,l1,u1⟩:=ge;clear gc;go_wp2_with fail;refine gb.out.mono ?_;rintro e w' ⟨⟨v2',rfl,gd⟩,rfl⟩;obtain⟨a2,c2,rfl,k2,l2,u2⟩:=gd;clear gb;have gg:=Hd u1;have gf:=Hd u2;have m1:=u1.len;have m2:=u2.len;have ga:=Hd (show Below w.heap.size w w from Below.refl _ _);clear u1 u2;obtain⟨L1,g9⟩:∃ L,L=(digD x).length:=⟨_,rfl⟩;obtain⟨L2,g8⟩:∃ L,L=(digD y).length:=⟨_,rfl⟩;rw[<- g9] at k1 m1 ⊢;rw[<- g8] at k2 m2 ⊢;have g5:=Hd g9;have g4:=Hd g8;clear g9 g8;rcases Nat.lt_trichotomy L1 L2 with c|c|c
 ·have cz:(L1:Int)<(L2:Int):=by omega
  have cn:¬ (L1:Int)=(L2:Int):=by omega
  have HF:=Hd (g0.out w (Zrj (by rw[<- g5.out,<- g4.out];exact c)) ga.out);clear g0 g1 g6;go_wp2_with fail;exact HF.out
 ·subst c;go_wp2_with fail
  go_loopw [5,27,37] (fun s5 _ _ wr=>∃ k:Nat,k<=L1/\s5=.int .i64 ((k:Int)-1)/\Hid (Below w.heap.size w wr)/\Hid ((digD x).drop k=(digD y).drop k)) (fun s5 _ _ _=>(intOf s5+1).toNat)
  case atStart=>exact⟨L1,Nat.le_refl _,rfl,ga,Hd (by rw[List.drop_eq_nil_of_le (by rw[<- g5.out];exact Nat.le_refl _),List.drop_eq_nil_of_le (by rw[<- g4.out];exact Nat.le_refl _)])⟩
  case round =>
   obtain⟨k,hk,rfl,HB,HD⟩:=hrel;cases k with
   | zero =>
     have HF:=Hd (g6.out wr (by
      have:=HD.out;rw[List.drop_zero,List.drop_zero] at this;rw[<- Zct x,<- Zct y,this]) HB.out)
     clear g0 g1 g6 HD;go_wp2_with fail;exact HF.out
   | succ k =>
     have hi:k<L1:=by omega
     obtain⟨b1,o1,rfl,p1⟩:=gg.out.cells k (by rw[<- g5.out];exact hi);obtain⟨b2,o2,rfl,p2⟩:=gf.out.cells k (by rw[<- g4.out];exact hi);obtain⟨d1,g3⟩:∃ d,d=(digD x).getD k 0:=⟨_,rfl⟩;obtain⟨d2,g2⟩:∃ d,d=(digD y).getD k 0:=⟨_,rfl⟩;rw[<- g3] at p1;rw[<- g2] at p2;have q1:=(HB.out.cell (p:=⟨b1,o1+k,none⟩) (Zab p1)).trans p1;have q2:=(HB.out.cell (p:=⟨b2,o2+k,none⟩) (Zab p2)).trans p2;clear p1 p2;have g7:((k+1:Nat):Int)-1=(k:Int):=by omega
     have gi:(k:Int)<(L1:Int):=by omega
     have gj:(0:Int)<=(k:Int):=by omega
     rw[g7];rcases Nat.lt_trichotomy d1 d2 with e|e|e
     ·have ez:(d1:Int)<(d2:Int):=by omega
      have HF:=Hd (fun q=>g0.out (wr.drewN q) (by
       have:=Zwt (Zya x) (by rw[<- g5.out];exact hi) (by rw[<- g4.out];exact hi) HD.out (by rw[<- g3,<- g2];exact e)
       rwa [Zct,Zct] at this) (HB.out.trans ((Zag wr q).mono HB.out.size)))
      clear g0 g1 g6 HD g7 g3 g2;go_wp2_with fail
      go_quiet (fail)
      go_wp2_with fail;exact HF.out _
     ·have ez:¬ (d1:Int)<(d2:Int):=by omega
      have ez2:¬ (d2:Int)<(d1:Int):=by omega
      have HB2:=Hd (fun q=>HB.out.trans ((Zag wr q).mono HB.out.size))
      have gh:Hid ((digD x).drop k=(digD y).drop k):=Hd (by
       rw[Zfe (ds:=digD x) (by rw[<- g5.out];exact hi),Zfe (ds:=digD y) (by rw[<- g4.out];exact hi),HD.out,<- g3,<- g2,e])
      clear g0 g1 g6 HD g7 g3 g2 e;go_wp2_with fail
      go_quiet (fail)
      go_wp2_with fail
      go_quiet (fail)
      go_wp2_with fail;go_roundw
      case rel=>exact⟨k,by omega,by rfl,Hd (HB2.out _),gh⟩
      case measure=>simp[intOf]
     ·have ez:¬ (d1:Int)<(d2:Int):=by omega
      have ez2:(d2:Int)<(d1:Int):=by omega
      have HF:=Hd (fun q r=>g1.out ((wr.drewN q).drewN r) (by
       have:=Zwt (Zya y) (by rw[<- g4.out];exact hi) (by rw[<- g5.out];exact hi) HD.out.symm (by rw[<- g3,<- g2];exact e)
       rwa [Zct,Zct] at this) (HB.out.trans (((Zag wr q).trans (Zag (wr.drewN q) r)).mono HB.out.size)))
      clear g0 g1 g6 HD g7 g3 g2;go_wp2_with fail
      go_quiet (fail)
      go_wp2_with fail
      go_quiet (fail)
      go_wp2_with fail;exact HF.out _ _
 ·have cz:¬ (L1:Int)<(L2:Int):=by omega
  have cn:¬ (L1:Int)=(L2:Int):=by omega
  have HF:=Hd (g1.out w (Zrj (by rw[<- g5.out,<- g4.out];exact c)) ga.out);clear g0 g1 g6;go_wp2_with fail;exact HF.out
open Go.RowKit
section
variable {P:Program}{ops:Array Oper}{S:World->Prop}{Q:Exit->Act->World->Prop}{R:List PanicEntry->World->Prop}{m:Nat}
def Zjy (P:Program)(ops:Array Oper)(Q:Exit->Act->World->Prop)(S:World->Prop)(m:Nat):Nat->Array Bool->Act->World->Prop
 | 0,L,a,w=>Region.ready .any ops L=[]/\Q .normal a w
 | f+1,L,a,w=>(Region.ready .any ops L=[]->Q .normal a w) /\
   ∀ i∈Region.ready .any ops L,wpOp P ops Q i (fun a' w'=>((L.setIfInBounds i true).getD m false=true\/S w')/\Zjy P ops Q S m f (L.setIfInBounds i true) a' w') a w
theorem Znd {m:Nat}:∀ (f:Nat) (L:Array Bool) (a:Act) (w:World),Zjy P ops Q S m f L a w->wpAny P .any ops Q f L a w
 | 0,_,_,_,h=>h
 | f+1,_,_,_,h=>⟨h.1,fun i hi=>wpOp_mono (fun a' w' h'=>Znd f _ a' w' h'.2) (h.2 i hi)⟩
theorem Zcv {L:Array Bool}{i j:Nat}(h:i≠j):(L.setIfInBounds i true).getD j false=L.getD j false:=getD_set_ne false h
theorem Zq9 {m i:Nat}{oi:Oper}{v:Value}(hi:ops[i]?=some oi)(hs:Region.noSelect ops=true)(hQ:∀ c (a:Act) d v w,Q (.panic c) (a.put d v) w->Q (.panic c) a w)
 (hm:reaches ops ops.size i m=true) :
 ∀ (f:Nat) (L:Array Bool) (a:Act) (w:World),Closed ops L ->
  (∀ j oj,ops[j]?=some oj->j≠i->L.getD j true=false->(∀ e∈oj.after,Region.binds .any e=true->e.on≠i)->oi.apart ops oj=true) ->
  i∈Region.ready .any ops L->YieldsIf P ops S oi v a->S w ->
  Zjy P ops Q S m f (L.setIfInBounds i true) (a.put oi.dst v) w->Zjy P ops Q S m (f+1) L a w:=by
 intro f
 induction f with
 | zero =>
   intro L a w _ _ hr hy hS H;refine⟨fun h=>(by rw[h] at hr;cases hr),fun j hj=>?_⟩
   by_cases g0:j=i
   . subst g0;exact hy.wpOp hi hS ⟨.inr hS,H⟩
   . have:=ready_mono hj g0;rw[H.1] at this;cases this
 | succ f ih =>
   intro L a w hc g2 hr hy hS H;refine⟨fun h=>(by rw[h] at hr;cases hr),fun j hj=>?_⟩
   by_cases g0:j=i
   . subst g0;exact hy.wpOp hi hS ⟨.inr hS,H⟩
   ·have h1:=H.2 j (ready_mono hj g0);obtain⟨g4,oj,g3,gb⟩:=mem_ready.1 hj;have g1:=Zrw (mem_ready.1 hr).1;have g9:∀ e∈oj.after,Region.binds .any e=true->e.on≠i:=fun e he hb gg=>by
     have h1:=gb e he hb;rw[gg,g1] at h1;cases h1
    have ge:j≠m:=by
     rintro rfl;have:=Zcy hc _ _ (.inl hj) hm;rw[g1] at this;cases this
    have gf:i≠m:=by
     rintro rfl;have:=Zcy hc _ _ (.inl hr) hm;rw[g1] at this;cases this
    have ga:¬ L.getD m false=true:=fun e=>by
     have:=Zcy hc _ _ (.inr e) hm;rw[g1] at this;cases this
    have h2:=wpOp_putIf g3 (g2 j oj g3 g0 g4 g9) (fun cs b=>Region.noSelect_spec hs i oi cs b hi) (fun cs b=>Region.noSelect_spec hs j oj cs b g3) (fun c a w=>hQ c a _ _ w) hy h1;have g5:∀ k ok,ops[k]?=some ok->k≠i->(L.setIfInBounds j true).getD k true=false ->
     (∀ e∈ok.after,Region.binds .any e=true->e.on≠i)->oi.apart ops ok=true:=fun k ok hk gd g6 gc=>by
     refine g2 k ok hk gd ?_ gc
     by_cases g7:j=k
     . subst g7;exact g4
     . rw[getD_set_ne true g7] at g6;exact g6
    refine wpOp_mono (fun a' w' h3=>?_) h2;have g8:S w':=h3.2.1.resolve_left (by rw[Zcv ge,Zcv gf];exact ga);refine⟨.inr g8,ih (L.setIfInBounds j true) a' w' (hc.set hj) g5 (ready_mono hr (Ne.symm g0)) h3.1 g8 ?_⟩;rw[Array.setIfInBounds_comm _ _ g0];exact h3.2.2
theorem Zsp {m i:Nat}{oi:Oper}{v:Value}(hi:ops[i]?=some oi)(hs:Region.noSelect ops=true)(hQ:∀ c (a:Act) d v w,Q (.panic c) (a.put d v) w->Q (.panic c) a w)
 (him:i≠m) :
 ∀ (f:Nat) (L:Array Bool) (a:Act) (w:World),Closed ops L ->
  (∀ j oj,ops[j]?=some oj->j≠i->L.getD j true=false->(∀ e∈oj.after,Region.binds .any e=true->e.on≠i)->oi.apart ops oj=true) ->
  i∈Region.ready .any ops L->YieldsIf P ops (fun _=>True) oi v a->(L.getD m false=true\/S w) ->
  Zjy P ops Q S m f (L.setIfInBounds i true) (a.put oi.dst v) w->Zjy P ops Q S m (f+1) L a w:=by
 intro f
 induction f with
 | zero =>
   intro L a w _ _ hr hy hS H;refine⟨fun h=>(by rw[h] at hr;cases hr),fun j hj=>?_⟩
   by_cases g0:j=i
   . subst g0;exact hy.wpOp hi trivial ⟨by rw[Zcv him];exact hS,H⟩
   . have:=ready_mono hj g0;rw[H.1] at this;cases this
 | succ f ih =>
   intro L a w hc g1 hr hy hS H;refine⟨fun h=>(by rw[h] at hr;cases hr),fun j hj=>?_⟩
   by_cases g0:j=i
   . subst g0;exact hy.wpOp hi trivial ⟨by rw[Zcv him];exact hS,H⟩
   ·have h1:=H.2 j (ready_mono hj g0);obtain⟨g3,oj,g2,ga⟩:=mem_ready.1 hj;have g9:=Zrw (mem_ready.1 hr).1;have g8:∀ e∈oj.after,Region.binds .any e=true->e.on≠i:=fun e he hb gd=>by
     have h1:=ga e he hb;rw[gd,g9] at h1;cases h1
    have h2:=wpOp_putIf g2 (g1 j oj g2 g0 g3 g8) (fun cs b=>Region.noSelect_spec hs i oi cs b hi) (fun cs b=>Region.noSelect_spec hs j oj cs b g2) (fun c a w=>hQ c a _ _ w) hy h1;have g4:∀ k ok,ops[k]?=some ok->k≠i->(L.setIfInBounds j true).getD k true=false ->
     (∀ e∈ok.after,Region.binds .any e=true->e.on≠i)->oi.apart ops ok=true:=fun k ok hk gc g5 gb=>by
     refine g1 k ok hk gc ?_ gb
     by_cases g6:j=k
     . subst g6;exact g3
     . rw[getD_set_ne true g6] at g5;exact g5
    refine wpOp_mono (fun a' w' h3=>?_) h2;have g7:(L.setIfInBounds j true).getD m false=true\/S w':=by
     have h4:=h3.2.1;rw[Array.setIfInBounds_comm _ _ (Ne.symm g0),Zcv him] at h4;exact h4
    refine⟨g7,ih (L.setIfInBounds j true) a' w' (hc.set hj) g4 (ready_mono hr (Ne.symm g0)) h3.1 g7 ?_⟩;rw[Array.setIfInBounds_comm _ _ g0];exact h3.2.2
structure Zud (P:Program)(l:List Oper)(Q:Exit->Act->World->Prop)(R:List PanicEntry->World->Prop)(S:World->Prop)(m f:Nat)(L:Array Bool)(a:Act)(w:World):Prop where
 goes:Closed l.toArray L->S w->Zjy P l.toArray (PP R Q) S m f L a w
structure Zo2 (P:Program)(l:List Oper)(Q:Exit->Act->World->Prop)(R:List PanicEntry->World->Prop)(S:World->Prop)(m f:Nat)(L:Array Bool)(a:Act)(w:World):Prop where
 goes:Zjy P l.toArray (PP R Q) S m f L a w
theorem Zgz {id:Nat}{a:Act}{w:World}{l:List Oper}(S:World->Prop)(R:List PanicEntry->World->Prop)(m:Nat)(hR:∀ c (a:Act) w,a.defers=[]->R c w->Q (.panic c) a w)(hm:P.follows .mixedOrders=true)(hS:S w.drew)
 (h:Zud P l Q R S m l.length (Array.replicate l.toArray.size false) a w.drew):(Code.region id l.toArray true).wp P Q a w :=
 Zt8 hR (wp_region_any hm (Znd _ _ _ _ (h.goes (Zez _) hS)))
theorem Zba {l:List Oper}{f:Nat}{L:Array Bool}{a:Act}{w:World}(i:Nat){o:Oper}(hi:l[i]?=some o)(hg:o.guard=none)
 (hB:(Region.noSelect l.toArray&&(Region.ready .any l.toArray L).contains i&&Region.free .any l.toArray L i&&reaches l.toArray l.toArray.size i m)=true)
 (h:∃ v,(∀ w,S w->(execOp a.eval o).run P w=.ok (.value v) w)/\Zud P l Q R S m f (L.setIfInBounds i true) (a.put o.dst v) w):Zud P l Q R S m (f+1) L a w:=by
 obtain⟨v,h1,h2⟩:=h;refine⟨fun hc hS=>?_⟩;simp only[Bool.and_eq_true] at hB;obtain⟨⟨⟨hs,hr⟩,hf⟩,hm⟩:=hB;have g1:l.toArray[i]?=some o:=by simpa using hi
 have g0:i∈Region.ready .any l.toArray L:=by simpa using hr
 exact Zq9 g1 hs Zyh hm f L a w hc (Region.free_spec g1 hf) g0 (.inl ⟨by simp[Region.wanted,hg],h1⟩) hS (h2.goes (hc.set g0) hS)
theorem Zxx {l:List Oper}{f:Nat}{L:Array Bool}{a:Act}{w:World}(i:Nat){o:Oper}(hi:l[i]?=some o)(hg:o.guard=none)
 (hB:(Region.noSelect l.toArray&&(Region.ready .any l.toArray L).contains i&&Region.free .any l.toArray L i&&decide (i≠m))=true)
 (h:∃ v,(∀ w,(execOp a.eval o).run P w=.ok (.value v) w)/\Zud P l Q R S m f (L.setIfInBounds i true) (a.put o.dst v) w):Zud P l Q R S m (f+1) L a w:=by
 obtain⟨v,h1,h2⟩:=h;refine⟨fun hc hS=>?_⟩;simp only[Bool.and_eq_true] at hB;obtain⟨⟨⟨hs,hr⟩,hf⟩,hm⟩:=hB;have g1:l.toArray[i]?=some o:=by simpa using hi
 have g0:i∈Region.ready .any l.toArray L:=by simpa using hr
 exact Zsp g1 hs Zyh (of_decide_eq_true hm) f L a w hc (Region.free_spec g1 hf) g0 (.inl ⟨by simp[Region.wanted,hg],fun w _=>h1 w⟩) (.inr hS) (h2.goes (hc.set g0) hS)
theorem Zzi {l:List Oper}{f:Nat}{L:Array Bool}{a:Act}{w:World}(i:Nat){o:Oper}(hi:l[i]?=some o)(hr:(decide (Region.ready .any l.toArray L=[i])&&(L.setIfInBounds i true).getD m false)=true)
 (hw:Region.wanted o (yielded l.toArray a.tmps)=true) (h:o.wp P a w (fun a' w'=>Zo2 P l Q R S m f (L.setIfInBounds i true) a' w') (PP R Q)):Zo2 P l Q R S m (f+1) L a w:=by
 rw[Bool.and_eq_true] at hr;have g0:=of_decide_eq_true hr.1;refine⟨⟨fun h0=>(by rw[h0] at g0;cases g0),fun j hj=>?_⟩⟩;have g1:j=i:=by rw[g0] at hj;simpa using hj
 subst g1;have g2:l.toArray[j]?=some o:=by simpa using hi
 unfold wpOp;rw[g2];simp only[hw,if_true];left;refine Oper.wp_mono ?_ h;intro a' w' h2;exact⟨.inl hr.2,h2.goes⟩
theorem Ye4 {l:List Oper}{f:Nat}{L:Array Bool}{a:Act}{w:World}(h:Zo2 P l Q R S m f L a w):Zud P l Q R S m f L a w:=⟨fun _ _=>h.goes⟩
theorem Ycd {l:List Oper}{L:Array Bool}{a:Act}{w:World}(hr:(Region.ready .any l.toArray L).isEmpty=true)(h:Q .normal a w):Zo2 P l Q R S m 0 L a w :=
 ⟨⟨by simpa [List.isEmpty_iff] using hr,h⟩⟩
theorem Zt1 {l:List Oper}{f:Nat}{L:Array Bool}{a:Act}{w w':World}(i:Nat){o:Oper}{t:TypeId}{s x:Operand}(hi:l[i]?=some o)(hr:(decide (Region.ready .any l.toArray L=[i])&&(L.setIfInBounds i true).getD m false)=true)
 (hw:Region.wanted o (yielded l.toArray a.tmps)=true) (ho:o.op=.store t s x) (hs:(Instr.storeAt t (a.eval s) (a.eval x)).run P w=.ok () w')
 (h:Zo2 P l Q R S m f (L.setIfInBounds i true) (a.put o.dst undef) w'):Zo2 P l Q R S m (f+1) L a w:=by
 refine Zzi i hi hr hw ?_;unfold Oper.wp;simp only[execOp,ho,Sem.run_bind,hs,Result.andThen_ok];exact h
theorem Zt2 {l:List Oper}{f:Nat}{L:Array Bool}{a:Act}{w w':World}{v:Value}(i:Nat){o:Oper}(hi:l[i]?=some o)(hr:(decide (Region.ready .any l.toArray L=[i])&&(L.setIfInBounds i true).getD m false)=true)
 (hw:Region.wanted o (yielded l.toArray a.tmps)=true) (he:(execOp a.eval o).run P w=.ok (.value v) w')
 (h:Zo2 P l Q R S m f (L.setIfInBounds i true) (a.put o.dst v) w'):Zo2 P l Q R S m (f+1) L a w:=by
 refine Zzi i hi hr hw ?_;unfold Oper.wp;simp only[he];exact h
end
open Go.RowKit
theorem Znp:Zne 131 40 (.int .u32 0) 4:=⟨underlying40,by kernel_rfl,rfl,by omega⟩
def u32V (ds:List Nat):List Value:=ds.map fun d:Nat=>(.int .u32 (d:Int):Value)
theorem Zb8 (ds:List Nat):(u32V ds).length=ds.length:=by simp[u32V]
theorem Zt3 {ds:List Nat}{k:Nat}(hk:k<ds.length):(u32V ds)[k]?=some (.int .u32 (ds.getD k 0:Nat)):=by
 simp[u32V,List.getElem?_eq_getElem hk,List.getD]
theorem Ybn (ds:List Nat)(k d:Nat):(u32V ds).set k (.int .u32 (d:Nat))=u32V (ds.set k d):=by simp[u32V,List.map_set]
def RowU (w:World)(g:Nat)(ds:List Nat):Prop:=w.heap[g]?=some (.cells (u32V ds).toArray 131 (0,0))
theorem RowU.cell {w:World}{g k:Nat}{ds:List Nat}(h:RowU w g ds)(hk:k<ds.length):w.cell? ⟨g,k,none⟩=some (.int .u32 (ds.getD k 0:Nat)):=by
 unfold RowU at h;rw[cell_of_row _ _ k _ _ _ h];simpa using Zt3 hk
theorem RowU.at {w:World}{g:Nat}{ds:List Nat}(h:RowU w g ds)(ho:OkD ds)(hl:ds.length<=1000000):U32At w (some ⟨g,0,none⟩) ds :=
 ⟨hl,ho,fun k hk=>⟨g,0,rfl,by rw[Nat.zero_add];exact h.cell hk⟩⟩
theorem RowU.set {w:World}{g k d:Nat}{ds:List Nat}(h:RowU w g ds):RowU (w.setCell ⟨g,k,none⟩ (.int .u32 (d:Nat))) g (ds.set k d):=by
 unfold RowU at h ⊢;have g0:g<w.heap.size:=(Array.getElem?_eq_some_iff.1 h).1
 show (w.heap.modify g _)[g]?=_
 rw[Array.getElem?_modify,if_pos rfl,h,<- Ybn];simp
theorem RowU.drewN {w:World}{g:Nat}{ds:List Nat}(h:RowU w g ds)(q:Nat):RowU (w.drewN q) g ds:=h
theorem Zik {T:TypeId}{w:World}{base g n:Nat}{xs:List Value}(h:OwnC T w base (.slice (some ⟨g,0,none⟩) n n) xs)(hn:xs.length=n):w.heap[g]?=some (.cells xs.toArray T (0,0)):=by
 obtain⟨h1,⟨h2,_⟩|⟨g',cap,cur,e,h3,h4,h5,h6,h7,h8⟩⟩:=h
 . cases h2
 ·cases e;rw[h4];have:cur.toList=xs:=by
   rw[<- h8,hn];exact(List.take_of_length_le (by simp[h7])).symm
  rw[<- this]
theorem Zm6 {α:Type}{cur cs:List α}(h:cs.length=cur.length):splice cur 0 cs=cs:=by
 unfold splice;rw[List.take_zero,List.nil_append,Nat.zero_add,h,List.drop_length,List.append_nil]
theorem Zjh (a b:Nat)(ha:a<4294967296)(hb:b<4294967296):(BitVec.ofInt 32 (a:Int)).toNat=a/\(BitVec.ofInt 32 (b:Int)).toNat=b:=by
 constructor<;>(rw[BitVec.ofInt_natCast,BitVec.toNat_ofNat];exact Nat.mod_eq_of_lt (by omega))
theorem Ybo (a:Nat)(ha:a<4294967296):bits .and .u32 (a:Int) 1=((a%2:Nat):Int):=by
 obtain⟨h1,h2⟩:=Zjh a 1 ha (by omega)
 show IntKind.u32.wrap ((BitVec.ofInt 32 (a:Int) &&& BitVec.ofInt 32 ((1:Nat):Int)).toNat:Int)=_
 rw[BitVec.toNat_and,h1,h2,Nat.and_one_is_mod,IntKind.wrap_u32];omega
theorem Yea (a c:Nat)(ha:a<2147483648)(hc:c<=1):bits .or .u32 (a:Int) (IntKind.u32.wrap ((c:Int)*2147483648))=((a+c*2147483648:Nat):Int):=by
 have e:IntKind.u32.wrap ((c:Int)*2147483648)=((c*2147483648:Nat):Int):=by rw[IntKind.wrap_u32];omega
 rw[e];obtain⟨h1,h2⟩:=Zjh a (c*2147483648) (by omega) (by omega)
 show IntKind.u32.wrap ((BitVec.ofInt 32 (a:Int) ||| BitVec.ofInt 32 ((c*2147483648:Nat):Int)).toNat:Int)=_
 rw[BitVec.toNat_or,h1,h2,Nat.or_comm,show c*2147483648=2^31*c by omega,<- Nat.two_pow_add_eq_or_of_lt (by omega) c,IntKind.wrap_u32];omega
theorem Zn0:(prog.info? 131).map (·.size)=some 1:=by kernel_rfl
theorem Zkh (ds:List Nat):∀ v∈u32V ds,v.oneCell'=true:=fun v hv=>by
 obtain⟨d,_,rfl⟩:=List.mem_map.1 hv;rfl
theorem U32At.src {w:World}{a:Option Addr}{ds:List Nat}(h:U32At w a ds)(hp:0<ds.length):∃ ad,a=some ad/\∀ j v,(u32V ds)[j]?=some v->w.cell? (ad.add j)=some v:=by
 obtain⟨b,off,rfl,_⟩:=h.cells 0 hp;refine⟨_,rfl,fun j v hv=>?_⟩;have hj:j<ds.length:=by
  have:=(List.getElem?_eq_some_iff.1 hv).1
  rwa [Zb8] at this
 rw[Zt3 hj] at hv;obtain⟨b',off',e,hc⟩:=h.cells j hj;cases e;rw[<- Option.some.inj hv];unfold Addr.add;split
 ·rename_i e0
  subst e0;simpa using hc
 . exact hc
structure Zkk (ds:List Nat)(k c:Nat)(rs:List Nat):Prop where
 len:rs.length=ds.length
 low:∀ j,j<k->rs.getD j 0=ds.getD j 0
 ok:OkD rs
 c1:c<=1
 val:valD (ds.drop k)=2*valD (rs.drop k)+c
theorem Zd3 (l:List Nat)(i j d:Nat):(l.set i d).getD j 0=if i=j/\j<l.length then d else l.getD j 0:=by
 simp only[List.getD,List.getElem?_set]
 by_cases h:i=j
 ·subst h
  by_cases h2:i<l.length
  . simp[h2]
  . simp[h2]
 . simp[h]
theorem Zkk.start {ds:List Nat}(ho:OkD ds):Zkk ds ds.length 0 ds:=⟨rfl,fun _ _=>rfl,ho,by omega,by simp[valD]⟩
theorem Zkk.next {ds rs:List Nat}{k c:Nat}(h:Zkk ds (k+1) c rs)(ho:OkD ds)(hk:k<ds.length):Zkk ds k (ds.getD k 0%2) (rs.set k (ds.getD k 0/2+c*2147483648)):=by
 have hd:ds.getD k 0<4294967296:=by
  simp only[List.getD,List.getElem?_eq_getElem hk];exact ho _ (List.getElem_mem hk)
 have hc:=h.c1;refine⟨by simp[h.len],fun j hj=>?_,fun d g0=>?_,by omega,?_⟩
 . rw[Zd3,if_neg (by omega)];exact h.low j (by omega)
 ·rcases List.mem_or_eq_of_mem_set g0 with e|e
  . exact h.ok d e
  . subst e;omega
 ·have hl:(rs.set k (ds.getD k 0/2+c*2147483648)).length=ds.length:=by simp[h.len]
  rw[Zfe hk,Zfe (ds:=rs.set k _) (by rw[hl];exact hk),Zd3,if_pos ⟨rfl,by rw[h.len];exact hk⟩];have e2:(rs.set k (ds.getD k 0/2+c*2147483648)).drop (k+1)=rs.drop (k+1):=by
   rw[List.drop_set];simp
  rw[e2]
  show ds.getD k 0+4294967296*valD (ds.drop (k+1))=2*(ds.getD k 0/2+c*2147483648+4294967296*valD (rs.drop (k+1)))+ds.getD k 0%2
  have hv:=h.val
  generalize ds.getD k 0=d at *
  generalize valD (ds.drop (k+1))=A at *
  generalize valD (rs.drop (k+1))=B at *
  omega
theorem Zkk.done {x c:Nat}{rs:List Nat}(h:Zkk (digD x) 0 c rs):valD rs=x/2/\c=x%2:=by
 have:=h.val;rw[List.drop_zero,List.drop_zero,Zct] at this;have:=h.c1;omega
theorem Zg0 {w:World}{v:Value}{x:Nat}(h:NatV w v x) :
 Calls prog 78 #[v] w fun e w'=>(∃ v',e=.returned (.tuple #[v',.bool (decide (x%2=1))])/\NatV w' v' (x/2)/\∀ q,v'.ownBlock=some q->w.heap.size<=q)/\Below w.heap.size w w':=by
 obtain⟨a,c,rfl,h1,h2,h3⟩:=h;obtain⟨ds,g6⟩:∃ ds,ds=digD x:=⟨_,rfl⟩;rw[<- g6] at h1 h3 ⊢;have HU:=Hd h3;have g1:=h3.len;obtain⟨P,hP⟩:∃ P:Ending->World->Prop,P=fun e w'=>(∃ v',e=.returned (.tuple #[v',.bool (decide (x%2=1))])/\NatV w' v' (x/2)/\∀ q,v'.ownBlock=some q->w.heap.size<=q)/\Below w.heap.size w w':=⟨_,rfl⟩
 have g0:=Hd g6;have gx:=Hd hP;rw[<- hP];obtain⟨L,hL⟩:∃ L,L=ds.length:=⟨_,rfl⟩;rw[<- hL] at h1 g1 ⊢;have HL:=Hd hL;clear g6 h3 hL hP
 go_enter func78,ntmps78
 go_upto_region 2 with (at_make;refine Zd8 Znp rfl _ _ rfl w.heap.size w _ L rfl rfl rfl (by omega) (Nat.le_refl _) (Below.refl _ _) ?_;intro g w1 g3 g8 hs1 gr g5 gs;clear gs)
 have g2:=Zik g3 (by simp);have gm:=Hd (HU.out.below (g8.mono (Nat.le_refl _)))
 have gn:Hid (RowU w1 g (List.replicate L 0)):=Hd (by
  unfold RowU;rw[g2];simp[u32V])
 clear g2 g3 gr;have gl:L=(u32V ds).length:=by rw[Zb8];exact HL.out
 have gc:=Hd gl;clear gl;go_wp2_with (refine wpList_copy_splice rfl _ _ 40 40 rfl 131 underlying40 Zn0 (some ⟨g,0,none⟩) a L L L c rfl rfl g 0 (u32V (List.replicate L 0)) 131 gn.out (u32V ds) (by rw[<- gc.out];exact(Nat.min_self L).symm) (fun hp=>⟨rfl,gm.out.src (by rw[Zb8] at hp;exact hp)⟩) (by rw[<- gc.out,Zb8];simp) (Zkh ds) w.heap.size w g8 g5 ?_;intro w2 gh gk)
 have gw:Hid (RowU w2 g ds):=Hd (by
  have:=gh.out;rw[Zm6 (by rw[<- gc.out,Zb8];simp)] at this;exact this)
 have HB2:=Hd gk;clear gh gk gn gm g8 hs1;have gv:Hid (Zkk ds L 0 ds):=Hd (by rw[HL.out];exact Zkk.start HU.out.ok)
 go_loopw [5,6] (fun s5 s6 wr=>∃ (k cc:Nat) (rs:List Nat),k<=L/\s6=.int .i64 ((k:Int)-1)/\s5=.int .u32 (cc:Nat)/\Hid (Zkk ds k cc rs)/\Hid (RowU wr g rs)/\Hid (Below w.heap.size w wr)) (fun _ s6 _=>(intOf s6+1).toNat)
 case atStart=>exact⟨L,0,ds,Nat.le_refl _,rfl,rfl,gv,gw,HB2⟩
 case round =>
  obtain⟨k,cc,rs,hk,rfl,rfl,HS,HR,HB⟩:=hrel;cases k with
  | zero =>
    rw[g0.out] at HS;have g7:=HS.out.done;have hT:=Zfq (c:=L) (HR.out.at HS.out.ok (by rw[HS.out.len,<- g0.out,<- HL.out];exact g1)) (by rw[HS.out.len,<- g0.out,<- HL.out];exact Nat.le_refl _) g1;rw[g7.1,HS.out.len,<- g0.out,<- HL.out] at hT;have gj:decide ((cc:Int)=1)=decide (x%2=1):=by
     rw[<- g7.2];exact decide_eq_decide.2 (by omega)
    have HT:=Hd hT;have go:=Hd gj;have HF:Hid (∀ v',NatV wr v' (x/2)->(∀ q,v'.ownBlock=some q->q=g)->P (.returned (.tuple #[v',.bool (decide (x%2=1))])) wr):=Hd fun v' hv hq=>by rw[gx.out];exact⟨⟨v',rfl,hv,fun q e=>by rw[hq q e];exact g5⟩,HB.out⟩
    clear hT gj g7 HS HR HB g0;go_wp2_with fail;refine HT.out.mono ?_;rintro e w' ⟨⟨v',rfl,hv,hq⟩,rfl⟩;have HV:=Hd (HF.out v' hv hq);rw[<- go.out] at HV;clear hv hq HT HF go;go_wp2_with fail;exact HV.out
  | succ k =>
    have hi:k<L:=by omega
    have gq:((k+1:Nat):Int)-1=(k:Int):=by omega
    have gy:(k:Int)<(L:Int):=by omega
    have gz:(0:Int)<=(k:Int):=by omega
    obtain⟨d,hd⟩:∃ d,d=ds.getD k 0:=⟨_,rfl⟩;have gg:=HS.out.len;have ck:=HR.out.cell (k:=k) (by rw[gg,<- HL.out];exact hi);rw[HS.out.low k (by omega),<- hd] at ck;have fk:wr.frozen? ⟨g,k,none⟩=false:=by have:=HR.out;unfold RowU at this;simp[World.frozen?,this]
    have HD:=Hd hd;have gt:d<4294967296:=by
     rw[hd];have gi:k<ds.length:=by rw[<- HL.out];exact hi
     simp only[List.getD,List.getElem?_eq_getElem gi];exact HU.out.ok _ (List.getElem_mem gi)
    have gu:=HS.out.c1;have HN:=Hd (HS.out.next HU.out.ok (by rw[<- HL.out];exact hi));rw[<- hd] at HN;rw[gq];clear hd gg;go_upto_region 7 with fail;have ckz:wr.drew.cell? ⟨g,k,none⟩=some (.int .u32 (d:Nat)):=ck;have fkz:wr.drew.frozen? ⟨g,k,none⟩=false:=fk;have ga:Hid (RowU wr.drew g rs):=Hd (HR.out.drewN 1);have gd:Hid (Below w.heap.size w wr.drew):=Hd (HB.out.trans ((Zag wr 1).mono HB.out.size));have eor:=Yea (d/2) cc (by omega) gu;have eand:=Ybo d gt;have ehalf:((d/2:Nat):Int)=(d:Int)/2:=by omega
    rw[ehalf] at eor;obtain⟨wz,g4⟩:∃ wz,wz=wr.drew:=⟨_,rfl⟩;rw[<- g4] at ckz fkz ga gd;have g9:=Hd g4;clear g4 ck fk;refine Zgz (fun W'=>W'.cell? ⟨g,k,none⟩=some (.int .u32 (d:Nat))) (fun ch w'=>False) 16 (fun c a w hd h=>h.elim) (by kernel_rfl) (by rw[<- g9.out];exact ckz) ?_;rw[<- g9.out];refine Zba 0 rfl rfl (by kernel_rfl) ?_;apply Exists.intro;refine⟨fun w' hw=>?_,?_⟩
    . go_simp;rfl
    simp only[Zai];refine Zba 1 rfl rfl (by kernel_rfl) ?_;apply Exists.intro;refine⟨fun w' hw=>?_,?_⟩
    . go_simp;rfl
    simp only[Zai];refine Zba 2 rfl rfl (by kernel_rfl) ?_;apply Exists.intro;refine⟨fun w' hw=>?_,?_⟩
    . go_simp;rfl
    simp only[Zai];refine Zba 3 rfl rfl (by kernel_rfl) ?_;apply Exists.intro;refine⟨fun w' hw=>?_,?_⟩
    . go_simp;rfl
    simp only[Zai];refine Zba 4 rfl rfl (by kernel_rfl) ?_;apply Exists.intro;refine⟨fun w' hw=>?_,?_⟩
    . go_simp;rfl
    simp only[Zai];refine Zba 5 rfl rfl (by kernel_rfl) ?_;apply Exists.intro;refine⟨fun w' hw=>?_,?_⟩
    . go_simp;rfl
    simp only[Zai];refine Zba 6 rfl rfl (by kernel_rfl) ?_;apply Exists.intro;refine⟨fun w' hw=>?_,?_⟩
    . go_simp;rfl
    simp only[Zai];refine Zba 7 rfl rfl (by kernel_rfl) ?_;apply Exists.intro;refine⟨fun w' hw=>?_,?_⟩
    . go_simp;rfl
    simp only[Zai];refine Zba 8 rfl rfl (by kernel_rfl) ?_;apply Exists.intro;refine⟨fun w' hw=>?_,?_⟩
    . go_simp;rfl
    simp only[Zai];refine Zba 9 rfl rfl (by kernel_rfl) ?_;apply Exists.intro;refine⟨fun w' hw=>?_,?_⟩
    . go_simp;rfl
    simp only[Zai];refine Zba 10 rfl rfl (by kernel_rfl) ?_;apply Exists.intro;refine⟨fun w' hw=>?_,?_⟩
    . go_simp;rfl
    simp only[Zai];refine Zba 11 rfl rfl (by kernel_rfl) ?_;apply Exists.intro;refine⟨fun w' hw=>?_,?_⟩
    . go_simp;rfl
    simp only[Zai];refine Zba 12 rfl rfl (by kernel_rfl) ?_;apply Exists.intro;refine⟨fun w' hw=>?_,?_⟩
    . go_simp;rfl
    simp only[Zai];refine Zba 13 rfl rfl (by kernel_rfl) ?_;apply Exists.intro;refine⟨fun w' hw=>?_,?_⟩
    . go_simp;rfl
    simp only[Zai];refine Zxx 14 rfl rfl (by kernel_rfl) ?_;apply Exists.intro;refine⟨fun w'=>?_,?_⟩
    . go_simp;rfl
    simp only[Zai];refine Zba 15 rfl rfl (by kernel_rfl) ?_;apply Exists.intro;refine⟨fun w' hw=>?_,?_⟩
    . go_simp;rfl
    simp only[Zai];refine Ye4 ?_;refine Zt1 (w':=wz.setCell ⟨g,k,none⟩ (.int .u32 ((d/2+cc*2147483648:Nat):Int))) 16 rfl (by kernel_rfl) rfl rfl ?_ ?_
    . go_simp
    simp only[Zai];refine Zt2 (w':=wz.setCell ⟨g,k,none⟩ (.int .u32 ((d/2+cc*2147483648:Nat):Int))) (v:=.int .u32 ((d%2:Nat):Int)) 17 rfl (by kernel_rfl) rfl (by go_simp) ?_;simp only[Zai];refine Ycd (by kernel_rfl) ?_;have gb:=Hd (ga.out.set (k:=k) (d:=d/2+cc*2147483648));have ge:Hid (Below w.heap.size w (wz.setCell ⟨g,k,none⟩ (.int .u32 ((d/2+cc*2147483648:Nat):Int)))):=Hd (gd.out.setCell g5 _);clear HS HR HB ga gd ckz fkz g9;obtain⟨w5,gf⟩:∃ w5,w5=wz.setCell ⟨g,k,none⟩ (.int .u32 ((d/2+cc*2147483648:Nat):Int)):=⟨_,rfl⟩;rw[<- gf] at gb ge ⊢;have gp:=Hd (show ∃ (k' cc':Nat) (rs':List Nat),k'<=L/\(Value.int .i64 ((k:Int)-1))=.int .i64 ((k':Int)-1)/\(Value.int .u32 ((d%2:Nat):Int))=.int .u32 (cc':Nat)/\Hid (Zkk ds k' cc' rs')/\Hid (RowU w5 g rs')/\Hid (Below w.heap.size w w5) from ⟨k,d%2,_,by omega,rfl,rfl,HN,gb,ge⟩);clear gf gb ge HN eor eand ehalf;go_wp2_with fail;go_roundw
    case rel=>exact gp.out
    case measure=>simp[intOf]
open Go.RowKit
theorem Zwc {w:World}{x y c:Nat}(hx:x<4294967296)(hy:y<4294967296)(hc:c<=1) :
 Calls prog 73 #[.int .u32 x,.int .u32 y,.int .u32 c] w fun e w'=>e=.returned (.tuple #[.int .u32 ((x+y+c)%4294967296:Nat),.int .u32 ((x+y+c)/4294967296:Nat)])/\w=w':=by
 have e1:IntKind.u64.wrap ((x:Int)+(y:Int))=(x:Int)+(y:Int):=by rw[IntKind.wrap_u64];omega
 have e2:IntKind.u64.wrap ((x:Int)+(y:Int)+(c:Int))=(x:Int)+(y:Int)+(c:Int):=by rw[IntKind.wrap_u64];omega
 obtain⟨P,hP⟩:∃ P:Ending->World->Prop,P=fun e w'=>e=.returned (.tuple #[.int .u32 ((x+y+c)%4294967296:Nat),.int .u32 ((x+y+c)/4294967296:Nat)])/\w=w':=⟨_,rfl⟩
 rw[<- hP];have HP:=Hd hP;clear hP
 go_enter func73,ntmps73
 go_wp2_with fail;rw[HP.out];refine⟨?_,rfl⟩
 show Ending.returned (.tuple #[.int .u32 (((x:Int)+(y:Int)+(c:Int))%4294967296),.int .u32 (((x:Int)+(y:Int)+(c:Int))/4294967296)])=_
 rw[show (((x+y+c)%4294967296:Nat):Int)=((x:Int)+(y:Int)+(c:Int))%4294967296 by omega,show (((x+y+c)/4294967296:Nat):Int)=((x:Int)+(y:Int)+(c:Int))/4294967296 by omega]
theorem tb31 {n:Nat}(h:n<4294967296):n.testBit 31=decide (2147483648<=n):=by
 rw[Nat.testBit_eq_decide_div_mod_eq];exact decide_eq_decide.2 (by omega)
theorem div31 {n:Nat}(h:n<4294967296):n/2147483648=(n.testBit 31).toNat:=by
 rw[tb31 h]
 by_cases c:2147483648<=n
 . rw[decide_eq_true c];show _=1;omega
 . rw[decide_eq_false c];show _=0;omega
theorem Zzm (a b:Nat)(ha:a<4294967296)(hb:b<4294967296):bits .and .u32 (a:Int) (b:Int)=((a &&& b:Nat):Int)/\a &&& b<4294967296:=by
 obtain⟨h1,h2⟩:=Zjh a b ha hb;have hx:a &&& b<2^32:=Nat.and_lt_two_pow _ (by omega);refine⟨?_,by omega⟩
 show IntKind.u32.wrap ((BitVec.ofInt 32 (a:Int) &&& BitVec.ofInt 32 (b:Int)).toNat:Int)=_
 rw[BitVec.toNat_and,h1,h2,IntKind.wrap_u32];omega
theorem Ye6 (a b:Nat)(ha:a<4294967296)(hb:b<4294967296):bits .or .u32 (a:Int) (b:Int)=((a ||| b:Nat):Int)/\a ||| b<4294967296:=by
 obtain⟨h1,h2⟩:=Zjh a b ha hb;have hx:a ||| b<2^32:=Nat.or_lt_two_pow (by omega) (by omega)
 refine⟨?_,by omega⟩
 show IntKind.u32.wrap ((BitVec.ofInt 32 (a:Int) ||| BitVec.ofInt 32 (b:Int)).toNat:Int)=_
 rw[BitVec.toNat_or,h1,h2,IntKind.wrap_u32];omega
theorem Zso (a b:Nat)(ha:a<4294967296)(hb:b<4294967296):bits .xor .u32 (a:Int) (b:Int)=((a ^^^ b:Nat):Int)/\a ^^^ b<4294967296:=by
 obtain⟨h1,h2⟩:=Zjh a b ha hb;have hx:a ^^^ b<2^32:=Nat.xor_lt_two_pow (by omega) (by omega);refine⟨?_,by omega⟩
 show IntKind.u32.wrap ((BitVec.ofInt 32 (a:Int) ^^^ BitVec.ofInt 32 (b:Int)).toNat:Int)=_
 rw[BitVec.toNat_xor,h1,h2,IntKind.wrap_u32];omega
theorem Zui {x y b:Nat}(hx:x<4294967296)(hy:y<4294967296)(hb:b<=1) :
 bits .or .u32 (bits .and .u32 (bits .xor .u32 IntKind.u32.max (x:Int)) (y:Int)) (bits .and .u32 (bits .xor .u32 IntKind.u32.max (bits .xor .u32 (x:Int) (y:Int))) (((x:Int)-(y:Int)-(b:Int))%4294967296))/2147483648=((if x<y+b then 1 else 0:Nat):Int):=by
 obtain⟨D,hD⟩:∃ D,D=(x+8589934592-y-b)%4294967296:=⟨_,rfl⟩;have eD:((x:Int)-(y:Int)-(b:Int))%4294967296=((D:Nat):Int):=by omega
 have g0:D<4294967296:=by omega
 have em:IntKind.u32.max=((4294967295:Nat):Int):=rfl;rw[eD,em];obtain⟨e1,l1⟩:=Zso 4294967295 x (by omega) hx;obtain⟨e2,l2⟩:=Zzm _ y l1 hy;obtain⟨e3,l3⟩:=Zso x y hx hy;obtain⟨e4,l4⟩:=Zso 4294967295 _ (by omega) l3;obtain⟨e5,l5⟩:=Zzm _ D l4 g0;obtain⟨e6,l6⟩:=Ye6 _ _ l2 l5;rw[e1,e2,e3,e4,e5,e6];have key:(((4294967295 ^^^ x) &&& y) ||| ((4294967295 ^^^ (x ^^^ y)) &&& D))/2147483648=if x<y+b then 1 else 0:=by
  rw[div31 l6,Nat.testBit_or,Nat.testBit_and,Nat.testBit_and,Nat.testBit_xor,Nat.testBit_xor,Nat.testBit_xor,tb31 hx,tb31 hy,tb31 g0,tb31 (show 4294967295<4294967296 by omega)]
  by_cases cx:2147483648<=x<;>by_cases cy:2147483648<=y<;>by_cases cd:2147483648<=D<;>by_cases cl:x<y+b<;>simp[cx,cy,cd,cl]<;>omega
 rw[<- key];rfl
theorem Zy0 {w:World}{x y b:Nat}(hx:x<4294967296)(hy:y<4294967296)(hb:b<=1) :
 Calls prog 149 #[.int .u32 x,.int .u32 y,.int .u32 b] w fun e w'=>e=.returned (.tuple #[.int .u32 ((x+8589934592-y-b)%4294967296:Nat),.int .u32 ((if x<y+b then 1 else 0):Nat)])/\w=w':=by
 obtain⟨P,hP⟩:∃ P:Ending->World->Prop,P=fun e w'=>e=.returned (.tuple #[.int .u32 ((x+8589934592-y-b)%4294967296:Nat),.int .u32 ((if x<y+b then 1 else 0):Nat)])/\w=w':=⟨_,rfl⟩
 rw[<- hP];have HP:=Hd hP;clear hP
 go_enter func149,ntmps149
 go_wp2_with fail;rw[HP.out];refine⟨?_,rfl⟩;have g1:=Zui hx hy hb;have g0:(((x+8589934592-y-b)%4294967296:Nat):Int)=((x:Int)-(y:Int)-(b:Int))%4294967296:=by omega
 rw[g0,<- g1]
open Go.RowKit
theorem Zda (l:List Nat)(k:Nat):valD (l.take (k+1))=valD (l.take k)+4294967296^k*l.getD k 0:=by
 rcases Nat.lt_or_ge k l.length with h|h
 . rw[List.take_add_one,List.getElem?_eq_getElem h,Zcj,List.length_take,Nat.min_eq_left (by omega)];simp[valD,List.getD,List.getElem?_eq_getElem h]
 . rw[List.take_of_length_le h,List.take_of_length_le (by omega)];simp[List.getD,List.getElem?_eq_none h]
theorem Zlr (l:List Nat)(k d:Nat):(l.set k d).take k=l.take k:=by
 rw[List.take_set];exact List.set_eq_of_length_le (by simp;omega)
theorem Zen {l:List Nat}(ho:OkD l)(k:Nat):l.getD k 0<4294967296:=by
 rcases Nat.lt_or_ge k l.length with h|h
 . simp only[List.getD,List.getElem?_eq_getElem h];exact ho _ (List.getElem_mem h)
 . simp[List.getD,List.getElem?_eq_none h]
structure SubS (dx dy:List Nat)(k br:Nat)(rs:List Nat):Prop where
 len:rs.length=dx.length
 high:∀ j,k<=j->rs.getD j 0=dx.getD j 0
 ok:OkD rs
 b1:br<=1
 val:valD (dx.take k)+4294967296^k*br=valD (rs.take k)+valD (dy.take k)
theorem SubS.start {dx dy:List Nat}(ho:OkD dx):SubS dx dy 0 0 dx:=⟨rfl,fun _ _=>rfl,ho,by omega,by simp[valD]⟩
theorem SubS.next {dx dy rs:List Nat}{k br:Nat}(h:SubS dx dy k br rs)(hox:OkD dx)(hoy:OkD dy)(hk:k<dx.length) :
 SubS dx dy (k+1) (if dx.getD k 0<dy.getD k 0+br then 1 else 0) (rs.set k ((dx.getD k 0+8589934592-dy.getD k 0-br)%4294967296)):=by
 have hd:=Zen hox k;have he:=Zen hoy k;have hb:=h.b1;refine⟨by simp[h.len],fun j hj=>?_,fun d g1=>?_,by split<;>omega,?_⟩
 . rw[Zd3,if_neg (by omega)];exact h.high j (by omega)
 ·rcases List.mem_or_eq_of_mem_set g1 with e|e
  . exact h.ok d e
  . subst e;omega
 ·have hv:=h.val;obtain⟨t,ht⟩:∃ t,t=(dx.getD k 0+8589934592-dy.getD k 0-br)%4294967296:=⟨_,rfl⟩;obtain⟨b2,g0⟩:∃ b2,b2=if dx.getD k 0<dy.getD k 0+br then 1 else 0:=⟨_,rfl⟩
  rw[<- ht,<- g0];have eg:(rs.set k t).getD k 0=t:=by rw[Zd3,if_pos ⟨rfl,by rw[h.len];exact hk⟩]
  rw[Zda,Zda,Zda,Zlr,eg];have key:t+dy.getD k 0+br=dx.getD k 0+4294967296*b2:=by
   rw[ht,g0];split<;>omega
  have k2:=congrArg (fun z=>4294967296^k*z) key;simp only[Nat.mul_add] at k2;rw[Nat.pow_succ,Nat.mul_assoc]
  generalize 4294967296^k*t=T at *
  generalize 4294967296^k*dy.getD k 0=Y at *
  generalize 4294967296^k*dx.getD k 0=X at *
  generalize 4294967296^k*br=Z at *
  generalize 4294967296^k*(4294967296*b2)=U at *
  omega
theorem SubS.done {x y br:Nat}{rs:List Nat}(h:SubS (digD x) (digD y) (digD x).length br rs)(hle:y<=x):valD rs=x-y:=by
 have g0:(digD y).length<=(digD x).length:=by
  refine Nat.le_of_not_lt fun g2=>?_
  have:=Zrj g2;omega
 have hv:=h.val;rw[List.take_length,List.take_of_length_le (by rw[h.len];exact Nat.le_refl _),List.take_of_length_le g0,Zct,Zct] at hv;have g1:=Zou rs h.ok;rw[h.len] at g1;have hb:=h.b1;rcases(show br=0\/br=1 by omega) with rfl|rfl
 . omega
 . omega
theorem Zwv {w:World}{v1 v2:Value}{x y:Nat}(h1:NatV w v1 x)(h2:NatV w v2 y)(hle:y<=x) :
 Calls prog 109 #[v1,v2] w fun e w'=>(∃ v',e=.returned (.tuple #[v',.bool true])/\NatV w' v' (x-y)/\∀ q,v'.ownBlock=some q->w.heap.size<=q)/\Below w.heap.size w w':=by
 have HC:=Hd (Ziw h1 h2);have gw:¬ cmpZ x y<0:=by unfold cmpZ;rw[if_neg (by omega)];split<;>omega
 obtain⟨z,hz⟩:∃ z,z=cmpZ x y:=⟨_,rfl⟩;rw[<- hz] at HC gw;have HT:Hid (∀ w1,Below w.heap.size w w1->Calls prog 72 #[v2] w1 fun e w'=>(∃ v',e=.returned v'/\NatV w1 v' y)/\w1=w'):=Hd fun w1 hb=>Zhx (h2.below hb)
 have gB:Hid (∀ w1,Below w.heap.size w w1->NatV w1 v1 x):=Hd fun w1 hb=>h1.below hb
 obtain⟨P,hP⟩:∃ P:Ending->World->Prop,P=fun e w'=>(∃ v',e=.returned (.tuple #[v',.bool true])/\NatV w' v' (x-y)/\∀ q,v'.ownBlock=some q->w.heap.size<=q)/\Below w.heap.size w w':=⟨_,rfl⟩
 have gA:=Hd hP;have gC:=Hd hle;rw[<- hP];obtain⟨a,c,rfl,l1,l2,l3⟩:=h1;clear hz hP h2 hle
 go_enter func109,ntmps109
 go_wp2_with fail;refine HC.out.mono ?_;rintro e w1 ⟨rfl,g0⟩;have g5:=Hd g0;have go:=Hd (HT.out w1 g0);clear HC HT g0;go_wp2_with fail;refine go.out.mono ?_;rintro e w' ⟨⟨v2',rfl,gr⟩,rfl⟩;obtain⟨a2,c2,rfl,m1,m2,m3⟩:=gr;have g2:=Hd m3;have g3:Hid (U32At w1 a (digD x)):=Hd (l3.below g5.out);have g1:=l3.len;have g8:=m3.len;obtain⟨dx,gc⟩:∃ d,d=digD x:=⟨_,rfl⟩;obtain⟨dy,gb⟩:∃ d,d=digD y:=⟨_,rfl⟩;rw[<- gc] at g3 g1 l1 ⊢;rw[<- gb] at g2 g8 m1 ⊢;obtain⟨L,hL⟩:∃ L,L=dx.length:=⟨_,rfl⟩;obtain⟨M,hM⟩:∃ M,M=dy.length:=⟨_,rfl⟩;rw[<- hL] at g1 l1 ⊢;rw[<- hM] at g8 m1 ⊢;have HL:=Hd hL;have HM:=Hd hM;have gE:=Hd gc;have gD:=Hd gb;have hs1:=g5.out.size;clear hL hM gc gb m3 l3 go gB hs1;go_upto_region 5 with (at_make;refine Zd8 Znp rfl _ _ rfl w1.heap.size w1 _ L rfl rfl rfl (by omega) (Nat.le_refl _) (Below.refl _ _) ?_;intro g w2 g7 g0 hs1 gt ga gu;clear gu)
 have g6:=Zik g7 (by simp);have gn:=Hd (g3.out.below g0);have gx:=Hd (g2.out.below g0)
 have gp:Hid (RowU w2 g (List.replicate L 0)):=Hd (by
  unfold RowU;rw[g6];simp[u32V])
 clear g6 g7 gt hs1;have gg:=Hd (show L=(u32V dx).length by rw[Zb8];exact HL.out);go_wp2_with (refine wpList_copy_splice rfl _ _ 40 40 rfl 131 underlying40 Zn0 (some ⟨g,0,none⟩) a L L L c rfl rfl g 0 (u32V (List.replicate L 0)) 131 gp.out (u32V dx) (by rw[<- gg.out];exact(Nat.min_self L).symm) (fun hp=>⟨rfl,gn.out.src (by rw[Zb8] at hp;exact hp)⟩) (by rw[<- gg.out,Zb8];simp) (Zkh dx) w1.heap.size w1 g0 ga ?_;intro w3 gi gm)
 have gz:Hid (RowU w3 g dx):=Hd (by
  have:=gi.out;rw[Zm6 (by rw[<- gg.out,Zb8];simp)] at this;exact this)
 have gF:=Hd gm;have gy:Hid (SubS dx dy 0 0 dx):=Hd (SubS.start g3.out.ok);clear gi gm gp gn gx g0
 go_loopw [7,8,9,24] (fun s7 _ _ s24 wr=>∃ (k br:Nat) (rs:List Nat),k<=L/\s24=.int .i64 (k:Int)/\s7=.int .u32 (br:Nat)/\Hid (SubS dx dy k br rs)/\Hid (RowU wr g rs)/\Hid (Below w1.heap.size w1 wr)) (fun _ _ _ s24 _=>L-(intOf s24).toNat)
 case atStart=>exact⟨0,0,dx,Nat.zero_le _,rfl,rfl,gy,gz,gF⟩
 case round =>
  obtain⟨k,br,rs,hk,rfl,rfl,HS,HR,HB⟩:=hrel
  by_cases gj:k<L
  ·have gH:(k:Int)<(L:Int):=by omega
   have g9:=HS.out.len;have ck:=HR.out.cell (k:=k) (by rw[g9,<- HL.out];exact gj);rw[HS.out.high k (Nat.le_refl _)] at ck;have fk:wr.frozen? ⟨g,k,none⟩=false:=by have:=HR.out;unfold RowU at this;simp[World.frozen?,this]
   have HN:=Hd (HS.out.next g3.out.ok g2.out.ok (by rw[<- HL.out];exact gj));obtain⟨d,hd⟩:∃ d,d=dx.getD k 0:=⟨_,rfl⟩;obtain⟨e,he⟩:∃ e,e=dy.getD k 0:=⟨_,rfl⟩;rw[<- hd] at ck HN;rw[<- he] at HN;have gv:d<4294967296:=by rw[hd];exact Zen g3.out.ok k
   have gk:e<4294967296:=by rw[he];exact Zen g2.out.ok k
   have g4:=Hd (Zy0 (w:=wr) gv gk HS.out.b1);obtain⟨t,ht⟩:∃ t,t=(d+8589934592-e-br)%4294967296:=⟨_,rfl⟩;obtain⟨b2,gd⟩:∃ b2,b2=if d<e+br then 1 else 0:=⟨_,rfl⟩
   rw[<- ht,<- gd] at g4 HN;have gf:=Hd (HR.out.set (k:=k) (d:=t));have gh:Hid (Below w1.heap.size w1 (wr.setCell ⟨g,k,none⟩ (.int .u32 ((t:Nat):Int)))):=Hd (HB.out.setCell ga _);have ge:=Hd (show ∃ (k' br':Nat) (rs':List Nat),k'<=L/\(Value.int .i64 ((k:Int)+1))=.int .i64 (k':Int)/\(Value.int .u32 ((b2:Nat):Int))=.int .u32 (br':Nat)/\Hid (SubS dx dy k' br' rs')/\Hid (RowU (wr.setCell ⟨g,k,none⟩ (.int .u32 ((t:Nat):Int))) g rs')/\Hid (Below w1.heap.size w1 (wr.setCell ⟨g,k,none⟩ (.int .u32 ((t:Nat):Int)))) from ⟨k+1,b2,_,by omega,by rw[show ((k+1:Nat):Int)=(k:Int)+1 by omega],rfl,HN,gf,gh⟩)
   by_cases hm:k<M
   ·obtain⟨bb,oo,rfl,pk⟩:=g2.out.cells k (by rw[<- HM.out];exact hm);have pk2:=(HB.out.cell (p:=⟨bb,oo+k,none⟩) (Zab pk)).trans pk;rw[<- he] at pk2;have gs:(k:Int)<(M:Int):=by omega
    clear pk hd he ht gd HN gf gh HS HR HB g9;go_wp2_with fail;refine g4.out.mono ?_;rintro q w' ⟨rfl,rfl⟩;go_wp2_with fail;go_roundw
    case rel=>exact ge.out
    case measure=>simp[intOf];omega
   ·have gs:¬ (k:Int)<(M:Int):=by omega
    have e0:e=0:=by
     rw[he];simp[List.getD,List.getElem?_eq_none (show dy.length<=k by rw[<- HM.out];omega)]
    rw[e0] at g4;have gq:Hid (Calls prog 149 #[.int .u32 (d:Nat),.int .u32 0,.int .u32 (br:Nat)] wr fun e w'=>e=.returned (.tuple #[.int .u32 (t:Nat),.int .u32 (b2:Nat)])/\wr=w'):=g4;clear hd he ht gd HN gf gh HS HR HB g9 e0 gk g4;go_wp2_with fail;refine gq.out.mono ?_;rintro q w' ⟨rfl,rfl⟩;go_wp2_with fail;go_roundw
    case rel=>exact ge.out
    case measure=>simp[intOf];omega
  ·obtain rfl:k=L:=by omega
   have gG:¬ (k:Int)<(k:Int):=by omega
   have hS:=HS.out;rw[HL.out,gE.out,gD.out] at hS;have gl:=hS.done gC.out;have hT:=Zfq (c:=k) (HR.out.at HS.out.ok (by rw[HS.out.len,<- HL.out];exact g1)) (by rw[HS.out.len,<- HL.out];exact Nat.le_refl _) g1;rw[gl,HS.out.len,<- HL.out] at hT;have HT:=Hd hT;have HF:Hid (∀ v',NatV wr v' (x-y)->(∀ q,v'.ownBlock=some q->q=g)->P (.returned (.tuple #[v',.bool true])) wr):=Hd fun v' hv hq=>by rw[gA.out];exact⟨⟨v',rfl,hv,fun q e=>by rw[hq q e];exact Nat.le_trans g5.out.size ga⟩,g5.out.trans (HB.out.mono g5.out.size)⟩
   clear hT gl hS HS HR HB;go_wp2_with fail;refine HT.out.mono ?_;rintro e w' ⟨⟨v',rfl,hv,hq⟩,rfl⟩;have HV:=Hd (HF.out v' hv hq);clear hv hq HT HF;go_wp2_with fail;exact HV.out
open Go.RowKit
theorem Yeb (d c:Nat)(hd:d<4294967296)(hc:c<=1):bits .or .u32 (IntKind.u32.wrap ((d:Int)*2)) (c:Int)=((2*d%4294967296+c:Nat):Int):=by
 have e:IntKind.u32.wrap ((d:Int)*2)=((2*(d%2147483648):Nat):Int):=by rw[IntKind.wrap_u32];omega
 rw[e];obtain⟨h1,h2⟩:=Zjh (2*(d%2147483648)) c (by omega) (by omega)
 show IntKind.u32.wrap ((BitVec.ofInt 32 ((2*(d%2147483648):Nat):Int) ||| BitVec.ofInt 32 (c:Int)).toNat:Int)=_
 rw[BitVec.toNat_or,h1,h2,show 2*(d%2147483648)=2^1*(d%2147483648) by omega,<- Nat.two_pow_add_eq_or_of_lt (by omega) (d%2147483648),IntKind.wrap_u32];omega
structure DblS (os:List Nat)(k c:Nat)(rs:List Nat):Prop where
 len:rs.length=os.length
 high:∀ j,k<=j->rs.getD j 0=os.getD j 0
 ok:OkD rs
 c1:c<=1
 val:valD (rs.take k)+4294967296^k*c=2*valD (os.take k)
theorem DblS.start {os:List Nat}(ho:OkD os):DblS os 0 0 os:=⟨rfl,fun _ _=>rfl,ho,by omega,by simp[valD]⟩
theorem DblS.next {os rs:List Nat}{k c:Nat}(h:DblS os k c rs)(ho:OkD os)(hk:k<os.length):DblS os (k+1) (os.getD k 0/2147483648) (rs.set k (2*os.getD k 0%4294967296+c)):=by
 have hd:=Zen ho k;have hc:=h.c1;refine⟨by simp[h.len],fun j hj=>?_,fun d g1=>?_,by omega,?_⟩
 . rw[Zd3,if_neg (by omega)];exact h.high j (by omega)
 ·rcases List.mem_or_eq_of_mem_set g1 with e|e
  . exact h.ok d e
  . subst e;omega
 ·have hv:=h.val;obtain⟨t,ht⟩:∃ t,t=2*os.getD k 0%4294967296+c:=⟨_,rfl⟩;obtain⟨c2,g0⟩:∃ c2,c2=os.getD k 0/2147483648:=⟨_,rfl⟩;rw[<- ht,<- g0];have eg:(rs.set k t).getD k 0=t:=by rw[Zd3,if_pos ⟨rfl,by rw[h.len];exact hk⟩]
  rw[Zda,Zda,Zlr,eg];have key:t+4294967296*c2=2*os.getD k 0+c:=by rw[ht,g0];omega
  have k2:=congrArg (fun z=>4294967296^k*z) key;simp only[Nat.mul_add] at k2;rw[Nat.pow_succ,Nat.mul_assoc];have e3:4294967296^k*(2*os.getD k 0)=2*(4294967296^k*os.getD k 0):=by rw[Nat.mul_left_comm]
  rw[e3] at k2
  generalize 4294967296^k*t=T at *
  generalize 4294967296^k*os.getD k 0=X at *
  generalize 4294967296^k*c=Z at *
  generalize 4294967296^k*(4294967296*c2)=U at *
  omega
theorem DblS.done {os rs:List Nat}{c:Nat}(h:DblS os os.length c rs)(hl:2*valD os<4294967296^os.length):valD rs=2*valD os/\c=0:=by
 have hv:=h.val;rw[List.take_length,List.take_of_length_le (by rw[h.len];exact Nat.le_refl _)] at hv;have hc:=h.c1;rcases(show c=0\/c=1 by omega) with rfl|rfl
 . omega
 . omega
theorem Ybp (n:Nat)(ds:List Nat):valD (List.replicate n 0++ds)=4294967296^n*valD ds:=by
 rw[Zcj,Zhh _ (fun d hd=>(List.mem_replicate.1 hd).2),List.length_replicate,Nat.zero_add]
theorem Zqv (n:Nat)(ds:List Nat):splice (u32V (List.replicate (ds.length+n+1) 0)) n (u32V ds)=u32V (List.replicate n 0++ds++[0]):=by
 unfold splice u32V;simp[List.take_replicate,List.drop_replicate,show min n (ds.length+n+1)=n by omega,show ds.length+n+1-(n+ds.length)=1 by omega]
theorem Zrl {w:World}{v:Value}{x k:Nat}(h:NatV w v x)(hx:(digD x).length<=1000)(hk:k<=4096) :
 Calls prog 20 #[v,.int .i64 (k:Nat)] w fun e w'=>(∃ v',e=.returned v'/\NatV w' v' (x*2^k)/\∃ g q:Nat,v'=.slice (some ⟨g,0,none⟩) q q/\w.heap.size<=g)/\Below w.heap.size w w':=by
 obtain⟨a,c,rfl,l1,l2,l3⟩:=h;obtain⟨dx,gb⟩:∃ d,d=digD x:=⟨_,rfl⟩;rw[<- gb] at l1 l3 hx ⊢;have HU:=Hd l3;obtain⟨L,hL⟩:∃ L,L=dx.length:=⟨_,rfl⟩;rw[<- hL] at l1 hx ⊢;have HL:=Hd hL;have gu:=Hd gb;obtain⟨P,hP⟩:∃ P:Ending->World->Prop,P=fun e w'=>(∃ v',e=.returned v'/\NatV w' v' (x*2^k)/\∃ g q:Nat,v'=.slice (some ⟨g,0,none⟩) q q/\w.heap.size<=g)/\Below w.heap.size w w':=⟨_,rfl⟩
 have gE:=Hd hP;rw[<- hP];obtain⟨W,hW⟩:∃ W,W=k/32:=⟨_,rfl⟩;obtain⟨r,hr⟩:∃ r,r=k%32:=⟨_,rfl⟩;have eW:(k:Int)/32=(W:Int):=by omega
 have er:(k:Int)%32=(r:Int):=by omega
 have eW2:Int.tdiv (k:Int) 32=(W:Int):=by rw[Int.tdiv_eq_ediv_of_nonneg (by omega)];exact eW
 have er2:Int.tmod (k:Int) 32=(r:Int):=by rw[Int.tmod_eq_emod_of_nonneg (by omega)];exact er
 have emx:max (k:Int) 0=(k:Int):=by omega
 have emn:min (k:Int) 4096=(k:Int):=by omega
 have gN:W<=128:=by omega
 have gF:=Hd (show k=32*W+r by omega);have gJ:r<32:=by omega
 clear gb hL hP l3 hW hr
 go_enter func20,ntmps20
 obtain⟨M,hM⟩:∃ M,M=L+W+1:=⟨_,rfl⟩;have eM:(L:Int)+(W:Int)+1=(M:Int):=by omega
 have gP:M<=2000:=by omega
 have gO:(W:Int)<=(M:Int):=by omega
 have gI:W<=M:=by omega
 have HM:=Hd hM;clear hM;go_upto_region 4 with (at_make;refine Zd8 Znp rfl _ _ rfl w.heap.size w _ M rfl rfl (by first|rfl|exact eM|omega) (by omega) (Nat.le_refl _) (Below.refl _ _) ?_;intro g w2 g4 gd hs1 gy ga gz;clear gz)
 have g3:=Zik g4 (by simp);have gs:=Hd (HU.out.below gd)
 have gt:Hid (RowU w2 g (List.replicate M 0)):=Hd (by
  unfold RowU;rw[g3];simp[u32V])
 clear g3 g4 gy hs1;have gh:=Hd (show L=(u32V dx).length by rw[Zb8];exact HL.out);go_upto_region 5 with (refine wpList_copy_splice rfl _ _ 40 40 rfl 131 underlying40 Zn0 (some ⟨g,W,none⟩) a (M-W) (M-W) L c rfl rfl g W (u32V (List.replicate M 0)) 131 gt.out (u32V dx) (by rw[<- gh.out,HM.out];exact(Nat.min_eq_left (by omega)).symm) (fun hp=>⟨rfl,gs.out.src (by rw[Zb8] at hp;exact hp)⟩) (by rw[<- gh.out,Zb8,List.length_replicate,HM.out];omega) (Zkh dx) w.heap.size w gd ga ?_;intro w3 gn gr)
 obtain⟨os0,g0⟩:∃ o,o=List.replicate W 0++dx++[0]:=⟨_,rfl⟩;have go:os0.length=M:=by rw[g0,HM.out,HL.out];simp;omega
 have gD:Hid (RowU w3 g os0):=Hd (by
  have h1:=gn.out;have h2:=Zqv W dx;rw[<- HL.out,<- HM.out] at h2;rw[h2,<- g0] at h1;exact h1)
 have g8:OkD os0:=by
  rw[g0];intro d hd;simp only[List.mem_append,List.mem_replicate,List.mem_singleton] at hd;rcases hd with (⟨_,rfl⟩|hd)|rfl
  . omega
  . exact HU.out.ok d hd
  . omega
 have gl:valD os0=4294967296^W*x:=by
  rw[g0,List.append_assoc,Ybp,Zcj,gu.out,Zct];simp[valD]
 have gw:Hid (∀ j,j<32->2*(4294967296^W*x*2^j)<4294967296^M):=Hd fun j hj=>by
  have h1:=Zsx x;rw[<- gu.out,<- HL.out] at h1;have h2:2^j*2<=4294967296:=by
   have:=Nat.pow_le_pow_right (n:=2) (by omega) (show j+1<=32 by omega);rw[Nat.pow_succ] at this;simpa using this
  rw[HM.out,Nat.pow_succ,Nat.pow_add];have h3:4294967296^W*x<4294967296^W*4294967296^L:=Nat.mul_lt_mul_of_pos_left h1 (Nat.pow_pos (by omega))
  calc 2*(4294967296^W*x*2^j)=(4294967296^W*x)*(2^j*2):=by rw[Nat.mul_comm 2,Nat.mul_assoc]
   _<=(4294967296^W*x)*4294967296:=Nat.mul_le_mul_left _ h2
   _<(4294967296^L*4294967296^W)*4294967296:=Nat.mul_lt_mul_of_pos_right (by rw[Nat.mul_comm (4294967296^L)];exact h3) (by omega)
 have gH:=Hd gr;have gG:Hid (os0.length=M/\OkD os0/\valD os0=4294967296^W*x*2^0):=Hd ⟨go,g8,by rw[gl];simp⟩;clear g0 go g8 gl gn gr gt gs gd eM emx emn gh;go_wp2_with fail
 go_loopw [7,8,27,31] (fun _ _ s27 _ wr=>∃ (j:Nat) (rs:List Nat),j<=r/\s27=.int .i64 (j:Int)/\Hid (rs.length=M/\OkD rs/\valD rs=4294967296^W*x*2^j)/\Hid (RowU wr g rs)/\Hid (Below w.heap.size w wr)) (fun _ _ s27 _ _=>r-(intOf s27).toNat)
 case atStart=>exact⟨0,os0,Nat.zero_le _,rfl,gG,gD,gH⟩
 case round =>
  obtain⟨j,rs,hj,rfl,HI,HR,HB⟩:=hrel;obtain⟨wo,gx⟩:∃ W',W'=wr:=⟨_,rfl⟩;subst gx
  by_cases gK:j<r
  ·have gL:(j:Int)<(r:Int):=by omega
   have gC:Hid (DblS rs 0 0 rs):=Hd (DblS.start HI.out.2.1);go_wp2_with fail
   go_loopw [7,8,31] (fun s7 _ s31 wr=>∃ (i cc:Nat) (qs:List Nat),i<=M/\s31=.int .i64 (i:Int)/\s7=.int .u32 (cc:Nat)/\Hid (DblS rs i cc qs)/\Hid (RowU wr g qs)/\Hid (Below w.heap.size w wr)) (fun _ _ s31 _=>M-(intOf s31).toNat)
   case atStart=>exact⟨0,0,rs,Nat.zero_le _,rfl,rfl,gC,HR,HB⟩
   case round =>
    obtain⟨i,cc,qs,hi,rfl,rfl,HS,g1,HB2⟩:=hrel
    by_cases gp:i<M
    ·have gM:(i:Int)<(M:Int):=by omega
     have g7:=HS.out.len;have g9:=HI.out.1;have ck:=g1.out.cell (k:=i) (by rw[g7,g9];exact gp);rw[HS.out.high i (Nat.le_refl _)] at ck;have fk:wr.frozen? ⟨g,i,none⟩=false:=by have:=g1.out;unfold RowU at this;simp[World.frozen?,this]
     have HN:=Hd (HS.out.next HI.out.2.1 (by rw[g9];exact gp));obtain⟨d,hd⟩:∃ d,d=rs.getD i 0:=⟨_,rfl⟩;rw[<- hd] at ck HN;have gA:d<4294967296:=by rw[hd];exact Zen HI.out.2.1 i
     have gB:=HS.out.c1;clear g7 g9 hd;go_upto_region 11 with fail;have ckz:wr.drew.cell? ⟨g,i,none⟩=some (.int .u32 (d:Nat)):=ck;have fkz:wr.drew.frozen? ⟨g,i,none⟩=false:=fk;have gf:Hid (RowU wr.drew g qs):=Hd (g1.out.drewN 1);have gi:Hid (Below w.heap.size w wr.drew):=Hd (HB2.out.trans ((Zag wr 1).mono HB2.out.size));have eor:=Yeb d cc gA gB;obtain⟨tv,gm⟩:∃ tv,tv=2*d%4294967296+cc:=⟨_,rfl⟩;rw[<- gm] at eor HN;have ediv:((d/2147483648:Nat):Int)=(d:Int)/2147483648:=by omega
     obtain⟨wz,g5⟩:∃ wz,wz=wr.drew:=⟨_,rfl⟩;rw[<- g5] at ckz fkz gf gi;have ge:=Hd g5;clear g5 ck fk gm;refine Zgz (fun W'=>W'.cell? ⟨g,i,none⟩=some (.int .u32 (d:Nat))) (fun ch w'=>False) 15 (fun c a w hd h=>h.elim) (by kernel_rfl) (by rw[<- ge.out];exact ckz) ?_;rw[<- ge.out];refine Zba 0 rfl rfl (by kernel_rfl) ?_;apply Exists.intro;refine⟨fun w' hw=>?_,?_⟩
     . go_simp;rfl
     simp only[Zai];refine Zba 1 rfl rfl (by kernel_rfl) ?_;apply Exists.intro;refine⟨fun w' hw=>?_,?_⟩
     . go_simp;rfl
     simp only[Zai];refine Zba 2 rfl rfl (by kernel_rfl) ?_;apply Exists.intro;refine⟨fun w' hw=>?_,?_⟩
     . go_simp;rfl
     simp only[Zai];refine Zba 3 rfl rfl (by kernel_rfl) ?_;apply Exists.intro;refine⟨fun w' hw=>?_,?_⟩
     . go_simp;rfl
     simp only[Zai];refine Zba 4 rfl rfl (by kernel_rfl) ?_;apply Exists.intro;refine⟨fun w' hw=>?_,?_⟩
     . go_simp;rfl
     simp only[Zai];refine Zba 5 rfl rfl (by kernel_rfl) ?_;apply Exists.intro;refine⟨fun w' hw=>?_,?_⟩
     . go_simp;rfl
     simp only[Zai];refine Zba 6 rfl rfl (by kernel_rfl) ?_;apply Exists.intro;refine⟨fun w' hw=>?_,?_⟩
     . go_simp;rfl
     simp only[Zai];refine Zba 7 rfl rfl (by kernel_rfl) ?_;apply Exists.intro;refine⟨fun w' hw=>?_,?_⟩
     . go_simp;rfl
     simp only[Zai];refine Zba 8 rfl rfl (by kernel_rfl) ?_;apply Exists.intro;refine⟨fun w' hw=>?_,?_⟩
     . go_simp;rfl
     simp only[Zai];refine Zba 9 rfl rfl (by kernel_rfl) ?_;apply Exists.intro;refine⟨fun w' hw=>?_,?_⟩
     . go_simp;rfl
     simp only[Zai];refine Zba 10 rfl rfl (by kernel_rfl) ?_;apply Exists.intro;refine⟨fun w' hw=>?_,?_⟩
     . go_simp;rfl
     simp only[Zai];refine Zba 11 rfl rfl (by kernel_rfl) ?_;apply Exists.intro;refine⟨fun w' hw=>?_,?_⟩
     . go_simp;rfl
     simp only[Zai];refine Zba 12 rfl rfl (by kernel_rfl) ?_;apply Exists.intro;refine⟨fun w' hw=>?_,?_⟩
     . go_simp;rfl
     simp only[Zai];refine Zxx 13 rfl rfl (by kernel_rfl) ?_;apply Exists.intro;refine⟨fun w'=>?_,?_⟩
     . go_simp;rfl
     simp only[Zai];refine Zba 14 rfl rfl (by kernel_rfl) ?_;apply Exists.intro;refine⟨fun w' hw=>?_,?_⟩
     . go_simp;rfl
     simp only[Zai];refine Ye4 ?_;refine Zt1 (w':=wz.setCell ⟨g,i,none⟩ (.int .u32 ((tv:Nat):Int))) 15 rfl (by kernel_rfl) rfl rfl ?_ ?_
     . go_simp
     simp only[Zai];refine Zt2 (w':=wz.setCell ⟨g,i,none⟩ (.int .u32 ((tv:Nat):Int))) (v:=.int .u32 ((d/2147483648:Nat):Int)) 16 rfl (by kernel_rfl) rfl (by go_simp) ?_;simp only[Zai];refine Ycd (by kernel_rfl) ?_;have gg:=Hd (gf.out.set (k:=i) (d:=tv));have gj:Hid (Below w.heap.size w (wz.setCell ⟨g,i,none⟩ (.int .u32 ((tv:Nat):Int)))):=Hd (gi.out.setCell ga _);clear HS g1 HB2 gf gi ckz fkz ge;obtain⟨w5,gk⟩:∃ w5,w5=wz.setCell ⟨g,i,none⟩ (.int .u32 ((tv:Nat):Int)):=⟨_,rfl⟩;rw[<- gk] at gg gj ⊢;have g2:=Hd (show ∃ (i' cc':Nat) (qs':List Nat),i'<=M/\(Value.int .i64 ((i:Int)+1))=.int .i64 (i':Int)/\(Value.int .u32 ((d/2147483648:Nat):Int))=.int .u32 (cc':Nat)/\Hid (DblS rs i' cc' qs')/\Hid (RowU w5 g qs')/\Hid (Below w.heap.size w w5) from ⟨i+1,d/2147483648,_,by omega,by rw[show ((i+1:Nat):Int)=(i:Int)+1 by omega],rfl,HN,gg,gj⟩);clear gk gg gj HN eor ediv;go_wp2_with fail;go_roundw
     case rel=>exact g2.out
     case measure=>simp[intOf];omega
    ·obtain rfl:i=M:=by omega
     have gv:¬ (i:Int)<(i:Int):=by omega
     have gc:=HS.out;rw[<- HI.out.1] at gc;have gq:=gc.done (by rw[HI.out.2.2,HI.out.1];exact gw.out j (by omega));have g2:=Hd (show ∃ (j':Nat) (rs':List Nat),j'<=r/\(Value.int .i64 ((j:Int)+1))=.int .i64 (j':Int)/\Hid (rs'.length=i/\OkD rs'/\valD rs'=4294967296^W*x*2^j')/\Hid (RowU wr g rs')/\Hid (Below w.heap.size w wr) from ⟨j+1,qs,by omega,by rw[show ((j+1:Nat):Int)=(j:Int)+1 by omega],Hd ⟨by rw[HS.out.len];exact HI.out.1,HS.out.ok,by rw[gq.1,HI.out.2.2,Nat.pow_succ,Nat.mul_comm 2 (4294967296^W*x*2^j),Nat.mul_assoc (4294967296^W*x)]⟩,g1,HB2⟩);clear gc gq HS g1 HB2;go_wp2_with fail;go_roundw
     case rel=>exact g2.out
     case measure=>simp[intOf];omega
  ·obtain rfl:j=r:=by omega
   have gv:¬ (j:Int)<(j:Int):=by omega
   have hT:=Zix (c:=M) (HR.out.at HI.out.2.1 (by rw[HI.out.1];omega)) (by rw[HI.out.1];exact Nat.le_refl _) (by omega);have g6:4294967296^W*x*2^j=x*2^k:=by
    rw[gF.out,Nat.pow_add,Nat.pow_mul,show (2:Nat)^32=4294967296 from rfl,Nat.mul_comm (4294967296^W) x,Nat.mul_assoc]
   rw[HI.out.2.2,HI.out.1,g6] at hT;have HT:=Hd hT;have HF:Hid (∀ q:Nat,NatV wo (.slice (some ⟨g,0,none⟩) q q) (x*2^k)->P (.returned (.slice (some ⟨g,0,none⟩) q q)) wo):=Hd fun q hv=>by rw[gE.out];exact⟨⟨_,rfl,hv,g,q,rfl,ga⟩,HB.out⟩
   clear hT g6 HI HR HB;go_wp2_with fail;refine HT.out.mono ?_;rintro e w' ⟨⟨v',rfl,hv⟩,rfl⟩;have HV:=Hd (HF.out v' hv);clear hv HT HF;go_wp2_with fail;exact HV.out
open Go.RowKit
structure Zuc (w:World)(a:Option Addr)(xs:List Nat):Prop where
 len:xs.length<=1000
 cells:∀ k,k<xs.length->∃ b off v,a=some ⟨b,off,none⟩/\w.cell? ⟨b,off+k,none⟩=some v/\NatV w v (xs.getD k 0)
theorem Zuc.below {w w':World}{a:Option Addr}{xs:List Nat}(h:Zuc w a xs)(hb:Below w.heap.size w w'):Zuc w' a xs :=
 ⟨h.len,fun k hk=>by
  obtain⟨b,off,v,h1,h2,h3⟩:=h.cells k hk;exact⟨b,off,v,h1,(hb.cell (p:=⟨b,off+k,none⟩) (Zab h2)).trans h2,h3.below hb⟩⟩
structure SumS (os dy:List Nat)(k c:Nat)(rs:List Nat):Prop where
 len:rs.length=os.length
 high:∀ j,k<=j->rs.getD j 0=os.getD j 0
 ok:OkD rs
 c1:c<=1
 val:valD (rs.take k)+4294967296^k*c=valD (os.take k)+valD (dy.take k)
theorem SumS.start {os dy:List Nat}(ho:OkD os):SumS os dy 0 0 os:=⟨rfl,fun _ _=>rfl,ho,by omega,by simp[valD]⟩
theorem SumS.next {os dy rs:List Nat}{k c:Nat}(h:SumS os dy k c rs)(ho:OkD os)(hoy:OkD dy)(hk:k<os.length) :
 SumS os dy (k+1) ((os.getD k 0+dy.getD k 0+c)/4294967296) (rs.set k ((os.getD k 0+dy.getD k 0+c)%4294967296)):=by
 have hd:=Zen ho k;have he:=Zen hoy k;have hc:=h.c1;refine⟨by simp[h.len],fun j hj=>?_,fun d g1=>?_,by omega,?_⟩
 . rw[Zd3,if_neg (by omega)];exact h.high j (by omega)
 ·rcases List.mem_or_eq_of_mem_set g1 with e|e
  . exact h.ok d e
  . subst e;omega
 ·have hv:=h.val;obtain⟨t,ht⟩:∃ t,t=(os.getD k 0+dy.getD k 0+c)%4294967296:=⟨_,rfl⟩;obtain⟨c2,g0⟩:∃ c2,c2=(os.getD k 0+dy.getD k 0+c)/4294967296:=⟨_,rfl⟩;rw[<- ht,<- g0];have eg:(rs.set k t).getD k 0=t:=by rw[Zd3,if_pos ⟨rfl,by rw[h.len];exact hk⟩]
  rw[Zda,Zda,Zda,Zlr,eg];have key:t+4294967296*c2=os.getD k 0+dy.getD k 0+c:=by rw[ht,g0];omega
  have k2:=congrArg (fun z=>4294967296^k*z) key;simp only[Nat.mul_add] at k2;rw[Nat.pow_succ,Nat.mul_assoc]
  generalize 4294967296^k*t=T at *
  generalize 4294967296^k*os.getD k 0=X at *
  generalize 4294967296^k*dy.getD k 0=Y at *
  generalize 4294967296^k*c=Z at *
  generalize 4294967296^k*(4294967296*c2)=U at *
  omega
theorem SumS.done {os dy rs:List Nat}{c:Nat}(h:SumS os dy os.length c rs)(hy:dy.length<=os.length)(hl:valD os+valD dy<4294967296^os.length):valD rs=valD os+valD dy:=by
 have hv:=h.val;rw[List.take_length,List.take_of_length_le (by rw[h.len];exact Nat.le_refl _),List.take_of_length_le hy] at hv;have hc:=h.c1;rcases(show c=0\/c=1 by omega) with rfl|rfl
 . omega
 . omega
theorem Zpj {x:Nat}(h:x<4294967296^1000):(digD x).length<=1000:=Nat.le_of_not_lt fun hgt=>by
 have:=Yb0 x 1000 hgt;omega
theorem Ye5 {x y a b m:Nat}(hx:x<4294967296^a)(hy:y<4294967296^b)(ha:a+1<=m)(hb:b+1<=m):x+y<4294967296^m:=by
 obtain⟨n,rfl⟩:∃ n,m=n+1:=⟨m-1,by omega⟩;have h1:=Nat.pow_le_pow_right (n:=4294967296) (by omega) (show a<=n by omega);have h2:=Nat.pow_le_pow_right (n:=4294967296) (by omega) (show b<=n by omega);rw[Nat.pow_succ]
 generalize 4294967296^n=p at *
 omega
theorem Zvs (m:Nat)(ds:List Nat):splice (u32V (List.replicate (ds.length+m) 0)) 0 (u32V ds)=u32V (ds++List.replicate m 0):=by
 unfold splice u32V;simp
theorem Zii (w:World):NatV w (.slice none 0 0) 0:=by
 refine⟨none,0,by rw[Zbn];rfl,by rw[Zbn];exact Nat.le_refl _,by omega,⟨by rw[Zbn];exact Nat.zero_le _,?_,fun k hk=>?_⟩⟩
 . rw[Zbn];intro d hd;cases hd
 . rw[Zbn] at hk;cases hk
theorem Zsg (xs:List Nat)(k:Nat):(xs.take k).sum<=xs.sum:=by
 have h:=List.take_append_drop k xs;have:xs.sum=(xs.take k).sum+(xs.drop k).sum:=by rw[<- List.sum_append,h]
 omega
theorem Zit {xs:List Nat}{k:Nat}(hk:k<xs.length):(xs.take (k+1)).sum=(xs.take k).sum+xs.getD k 0:=by
 rw[List.take_add_one,List.getElem?_eq_getElem hk,List.sum_append];simp[List.getD,List.getElem?_eq_getElem hk]
theorem Zwu {w:World}{a:Option Addr}{c:Nat}{xs:List Nat}(h:Zuc w a xs)(hs:xs.sum<4294967296^1000) :
 Calls prog 19 #[.slice a xs.length c] w fun e w'=>(∃ v',e=.returned v'/\NatV w' v' xs.sum/\∀ q,v'.ownBlock=some q->w.heap.size<=q)/\Below w.heap.size w w':=by
 have HA:=Hd h;have gM:=Hd hs;have gB:=h.len;obtain⟨P,hP⟩:∃ P:Ending->World->Prop,P=fun e w'=>(∃ v',e=.returned v'/\NatV w' v' xs.sum/\∀ q,v'.ownBlock=some q->w.heap.size<=q)/\Below w.heap.size w w':=⟨_,rfl⟩
 have gP:=Hd hP;rw[<- hP];obtain⟨n,hn⟩:∃ n,n=xs.length:=⟨_,rfl⟩;rw[<- hn] at gB ⊢;have HN:=Hd hn;have HZ:Hid (NatV w (.slice none 0 0) (xs.take 0).sum/\∀ q,(Value.slice none 0 0).ownBlock=some q->w.heap.size<=q):=Hd ⟨by simpa using Zii w,fun q e=>by cases e⟩;have gT:Hid (Below w.heap.size w w):=Hd (Below.refl _ _);clear hP h hs hn
 go_enter func19,ntmps19
 go_wp2_with fail
 go_loopw [3,5,6,7,8,9,12,28] (fun s3 _ _ _ _ _ s12 _ wr=>∃ k:Nat,k<=n/\s12=.int .i64 (k:Int)/\Hid (NatV wr s3 (xs.take k).sum/\∀ q,s3.ownBlock=some q->w.heap.size<=q)/\Hid (Below w.heap.size w wr)) (fun _ _ _ _ _ _ s12 _ _=>n-(intOf s12).toNat)
 case atStart=>exact⟨0,Nat.zero_le _,rfl,HZ,gT⟩
 case round =>
  obtain⟨k,hk,rfl,HV,HB⟩:=hrel;obtain⟨wo,gD⟩:∃ W',W'=wr:=⟨_,rfl⟩;subst gD
  by_cases ga:k<n
  ·have gU:(k:Int)<(n:Int):=by omega
   obtain⟨b,off,v,rfl,hc,hv⟩:=(HA.out.below HB.out).cells k (by rw[<- HN.out];exact ga);have g7:(xs.take k).sum+xs.getD k 0<4294967296^1000:=by
    rw[<- Zit (by rw[<- HN.out];exact ga)];exact Nat.lt_of_le_of_lt (Zsg _ _) gM.out
   have gf:=Hd (Zit (xs:=xs) (k:=k) (by rw[<- HN.out];exact ga));obtain⟨x,hx⟩:∃ x,x=(xs.take k).sum:=⟨_,rfl⟩;obtain⟨y,hy⟩:∃ y,y=xs.getD k 0:=⟨_,rfl⟩;have gm:=HV.out.1;rw[<- hx] at gm g7 gf;rw[<- hy] at hv g7 gf;obtain⟨a1,c1,rfl,l1,l2,l3⟩:=gm;obtain⟨a2,c2,rfl,m1,m2,m3⟩:=hv;have q1:=Zpj (x:=x) (by omega);have q2:=Zpj (x:=y) (by omega);have gv:=Hd (Zct x);have ge:=Hd (Zct y);have gk:=Hd (Zsx x);have gj:=Hd (Zsx y);obtain⟨dx,gt⟩:∃ d,d=digD x:=⟨_,rfl⟩;obtain⟨dy,gs⟩:∃ d,d=digD y:=⟨_,rfl⟩;rw[<- gt] at l1 l3 q1 gv gk ⊢;rw[<- gs] at m1 m3 q2 ge gj hc;obtain⟨L,hL⟩:∃ L,L=dx.length:=⟨_,rfl⟩;obtain⟨M,hM⟩:∃ M,M=dy.length:=⟨_,rfl⟩;rw[<- hL] at l1 q1 gk ⊢;rw[<- hM] at m1 q2 gj hc;have HL:=Hd hL;have HM:=Hd hM;have gx:=Hd l3;have g6:=Hd m3;obtain⟨T,hT⟩:∃ T,T=(max L M)+1:=⟨_,rfl⟩;have eT:max (L:Int) (M:Int)+1=(T:Int):=by omega
   have gX:T<=1001:=by omega
   have gJ:L+1<=T:=by omega
   have gI:M+1<=T:=by omega
   clear hx hy gt gs hL hM l3 m3 hT HV g7;have gz:=HB.out.size;go_upto_region 6 with (at_make;refine Zd8 Znp rfl _ _ rfl wo.heap.size wo _ T rfl rfl (by first|exact eT|omega) (by omega) (Nat.le_refl _) (Below.refl _ _) ?_;intro g w2 g4 g5 hs1 gF gb gG;clear gG)
   have g3:=Zik g4 (by simp);have gw:=Hd (gx.out.below g5);have gL:=Hd (g6.out.below g5)
   have gy:Hid (RowU w2 g (List.replicate T 0)):=Hd (by
    unfold RowU;rw[g3];simp[u32V])
   clear g3 g4 gF hs1;have gi:=Hd (show L=(u32V dx).length by rw[Zb8];exact HL.out);obtain⟨os0,g0⟩:∃ o,o=dx++List.replicate (T-L) 0:=⟨_,rfl⟩;have gp:os0.length=T:=by rw[g0];simp[<- HL.out];omega
   have g9:OkD os0:=by
    rw[g0];intro d hd;rcases List.mem_append.1 hd with hd|hd
    . exact gx.out.ok d hd
    . rw[(List.mem_replicate.1 hd).2];omega
   have gn:valD os0=x:=by
    rw[g0,Zcj,Zhh _ (fun d hd=>(List.mem_replicate.1 hd).2),gv.out];simp
   have gQ:Hid (splice (u32V (List.replicate T 0)) 0 (u32V dx)=u32V os0):=Hd (by
    rw[g0,<- Zvs,<- HL.out,show L+(T-L)=T by omega])
   have HO:=Hd (show os0.length=T/\OkD os0/\valD os0=x from ⟨gp,g9,gn⟩);clear g0 gp g9 gn;go_upto_region 7 with (refine wpList_copy_splice rfl _ _ 40 40 rfl 131 underlying40 Zn0 (some ⟨g,0,none⟩) a1 T T L c1 rfl rfl g 0 (u32V (List.replicate T 0)) 131 gy.out (u32V dx) (by rw[<- gi.out];exact(Nat.min_eq_left (by omega)).symm) (fun hp=>⟨rfl,gw.out.src (by rw[Zb8] at hp;exact hp)⟩) (by rw[<- gi.out,Zb8];simp;omega) (Zkh dx) wo.heap.size wo g5 gb ?_;intro w3 go gu)
   have gO:Hid (RowU w3 g os0):=Hd (by
    have:=go.out;rw[gQ.out] at this;exact this)
   have gS:=Hd gu;have gN:Hid (SumS os0 dy 0 0 os0):=Hd (SumS.start HO.out.2.1);clear go gu gy gw gL g5 gi
   generalize (if L<M then (M:Int) else (L:Int))=mx
   go_wp2_with fail
   go_loopw [7,8,9,28] (fun s7 _ _ s28 wr=>∃ (j cc:Nat) (rs:List Nat),j<=T/\s28=.int .i64 (j:Int)/\s7=.int .u32 (cc:Nat)/\Hid (SumS os0 dy j cc rs)/\Hid (RowU wr g rs)/\Hid (Below wo.heap.size wo wr)) (fun _ _ _ s28 _=>T-(intOf s28).toNat)
   case atStart=>exact⟨0,0,os0,Nat.zero_le _,rfl,rfl,gN,gO,gS⟩
   case round =>
    obtain⟨j,cc,rs,hj,rfl,rfl,HS,HR,HB2⟩:=hrel
    by_cases gq:j<T
    ·have gV:(j:Int)<(T:Int):=by omega
     have g8:=HS.out.len;have ck:=HR.out.cell (k:=j) (by rw[g8,HO.out.1];exact gq);rw[HS.out.high j (Nat.le_refl _)] at ck;have fk:wr.frozen? ⟨g,j,none⟩=false:=by have:=HR.out;unfold RowU at this;simp[World.frozen?,this]
     have g1:=Hd (HS.out.next HO.out.2.1 g6.out.ok (by rw[HO.out.1];exact gq));obtain⟨d,hd⟩:∃ d,d=os0.getD j 0:=⟨_,rfl⟩;obtain⟨e,he⟩:∃ e,e=dy.getD j 0:=⟨_,rfl⟩;rw[<- hd] at ck g1;rw[<- he] at g1;have gH:d<4294967296:=by rw[hd];exact Zen HO.out.2.1 j
     have gr:e<4294967296:=by rw[he];exact Zen g6.out.ok j
     have g2:=Hd (Zwc (w:=wr) gH gr HS.out.c1);obtain⟨t,ht⟩:∃ t,t=(d+e+cc)%4294967296:=⟨_,rfl⟩;obtain⟨b2,gd⟩:∃ b2,b2=(d+e+cc)/4294967296:=⟨_,rfl⟩;rw[<- ht,<- gd] at g2 g1;have gh:=Hd (HR.out.set (k:=j) (d:=t));have gl:Hid (Below wo.heap.size wo (wr.setCell ⟨g,j,none⟩ (.int .u32 ((t:Nat):Int)))):=Hd (HB2.out.setCell gb _);have gg:=Hd (show ∃ (j' cc':Nat) (rs':List Nat),j'<=T/\(Value.int .i64 ((j:Int)+1))=.int .i64 (j':Int)/\(Value.int .u32 ((b2:Nat):Int))=.int .u32 (cc':Nat)/\Hid (SumS os0 dy j' cc' rs')/\Hid (RowU (wr.setCell ⟨g,j,none⟩ (.int .u32 ((t:Nat):Int))) g rs')/\Hid (Below wo.heap.size wo (wr.setCell ⟨g,j,none⟩ (.int .u32 ((t:Nat):Int)))) from ⟨j+1,b2,_,by omega,by rw[show ((j+1:Nat):Int)=(j:Int)+1 by omega],rfl,g1,gh,gl⟩)
     by_cases hm:j<M
     ·obtain⟨bb,oo,rfl,pk⟩:=g6.out.cells j (by rw[<- HM.out];exact hm);have pk2:=(HB2.out.cell (p:=⟨bb,oo+j,none⟩) (Zab pk)).trans pk;rw[<- he] at pk2;have gE:(j:Int)<(M:Int):=by omega
      clear pk hd he ht gd g1 gh gl HS HR HB2 g8;go_wp2_with fail;refine g2.out.mono ?_;rintro q w' ⟨rfl,rfl⟩;go_wp2_with fail;go_roundw
      case rel=>exact gg.out
      case measure=>simp[intOf];omega
     ·have gE:¬ (j:Int)<(M:Int):=by omega
      have e0:e=0:=by
       rw[he];simp[List.getD,List.getElem?_eq_none (show dy.length<=j by rw[<- HM.out];omega)]
      rw[e0] at g2;have gC:Hid (Calls prog 73 #[.int .u32 (d:Nat),.int .u32 0,.int .u32 (cc:Nat)] wr fun e w'=>e=.returned (.tuple #[.int .u32 (t:Nat),.int .u32 (b2:Nat)])/\wr=w'):=g2;clear hd he ht gd g1 gh gl HS HR HB2 g8 e0 gr g2;go_wp2_with fail;refine gC.out.mono ?_;rintro q w' ⟨rfl,rfl⟩;go_wp2_with fail;go_roundw
      case rel=>exact gg.out
      case measure=>simp[intOf];omega
    ·obtain rfl:j=T:=by omega
     have gA:¬ (j:Int)<(j:Int):=by omega
     have hS:=HS.out;rw[<- HO.out.1] at hS;have gc:=hS.done (by rw[<- HM.out,HO.out.1];omega) (by rw[HO.out.1,HO.out.2.2,ge.out];exact Ye5 gk.out gj.out gJ gI);rw[HO.out.2.2,ge.out,<- gf.out] at gc;have hT:=Zfq (c:=j) (HR.out.at HS.out.ok (by rw[HS.out.len,HO.out.1];omega)) (by rw[HS.out.len,HO.out.1];exact Nat.le_refl _) (by omega);rw[gc,HS.out.len,HO.out.1] at hT;have HT:=Hd hT;have gR:=Hd (HB.out.trans (HB2.out.mono HB.out.size));clear hT gc hS HS HR HB2;go_wp2_with fail;refine HT.out.mono ?_;rintro e w' ⟨⟨v',rfl,hv,hq⟩,rfl⟩;have gK:Hid (NatV wr v' (xs.take (k+1)).sum/\∀ q,v'.ownBlock=some q->w.heap.size<=q):=Hd ⟨hv,fun q e=>by rw[hq q e];exact Nat.le_trans gz gb⟩;clear hv hq HT;go_wp2_with fail;go_roundw
     case rel=>exact⟨k+1,by omega,by rw[show ((k+1:Nat):Int)=(k:Int)+1 by omega],gK,gR⟩
     case measure=>simp[intOf];omega
  ·obtain rfl:k=n:=by omega
   have gA:¬ (k:Int)<(k:Int):=by omega
   have HF:Hid (P (.returned u3) wo):=Hd (by
    rw[gP.out];refine⟨⟨_,rfl,?_,HV.out.2⟩,HB.out⟩;have:=HV.out.1;rw[HN.out,List.take_length] at this;exact this)
   clear HV HB;go_wp2_with fail;exact HF.out
theorem Zum {w:World}{a:Option Addr}{c:Nat}{xs:List Nat}(h:Zuc w a xs)(hs:xs.sum<4294967296^1000) :
 Calls prog 19 #[.slice a xs.length c] w fun e w'=>(∃ v',e=.returned v'/\NatV w' v' xs.sum)/\Below w.heap.size w w' :=
 (Zwu h hs).mono fun _ _ ⟨⟨v,h1,h2,_⟩,h3⟩=>⟨⟨v,h1,h2⟩,h3⟩
open Go.RowKit
theorem Zgg (args:Array Value)(w:World):(callFunc 127 args).run prog w=.ok (.enter 127 args) w:=enters_of func127 (by kernel_rfl) rfl args w
theorem kEdS:Zlz prog 113 (Value.int .i64):=Zk3 underlying113
theorem Zri {w:World}{b k:Nat}{v:Value}{es:Array MapEntry}{c:Nat}(h:w.heap[b]?=some (.map es c))(hc:w.cell? ⟨b,k,none⟩=some v):False:=by
 simp[World.cell?,h] at hc
theorem NatV.other {κ:Type}[DecidableEq κ]{w w':World}{v:Value}{x b:Nat}{enc:κ->Value}{l:List (κ×Value)}(h:NatV w v x)(hm:Za5 w b enc l)(hw:Wr (· = b) w w'):NatV w' v x:=by
 obtain⟨a,c,h1,h2,h3,h4⟩:=h;obtain⟨es,ck,hb,_⟩:=hm.ex;refine⟨a,c,h1,h2,h3,⟨h4.len,h4.ok,fun k hk=>?_⟩⟩;obtain⟨b',off,e,hc⟩:=h4.cells k hk;refine⟨b',off,e,(World.cell?_of_block (w:=w) (a:=⟨b',off+k,none⟩) (hw.keep b' (Zab hc) fun e2=>?_)).trans hc⟩;have e2:b'=b:=e2;subst e2;exact Zri hb hc
def Zht (W:World)(fv:Value)(fx:Nat->Option Bool):Prop :=
 (fv=.map none/\∀ v,fx v=none)\/∃ ft l,fv=.map (some ft)/\Za5 W ft (Value.int .i64) l/\∀ v:Nat,getL l (v:Int)=(fx v).map Value.bool
theorem Zht.other {κ:Type}[DecidableEq κ]{W W':World}{fv:Value}{fx:Nat->Option Bool}{b:Nat}(h:Zht W fv fx)(hne:fv ≠ .map (some b))(hw:Wr (· = b) W W'):Zht W' fv fx:=by
 rcases h with h|⟨ft,l,h1,h2,h3⟩
 . exact .inl h
 . exact .inr ⟨ft,l,h1,h2.keepB (hw.keep ft h2.lt (fun e=>hne (by rw[h1,e]))),h3⟩
theorem Zht.below {W W':World}{fv:Value}{fx:Nat->Option Bool}(h:Zht W fv fx)(hb:Below W.heap.size W W'):Zht W' fv fx:=by
 rcases h with h|⟨ft,l,h1,h2,h3⟩
 . exact .inl h
 . exact .inr ⟨ft,l,h1,h2.below hb,h3⟩
theorem Zht.lookup {W:World}{fv:Value}{fx:Nat->Option Bool}(h:Zht W fv fx)(v:Nat) :
 (Instr.lookup 127 fv (.int .i64 (v:Nat)) true).run prog W=.ok (.tuple #[.bool ((fx v).getD false),.bool (fx v).isSome]) W:=by
 rcases h with ⟨rfl,h⟩|⟨ft,l,rfl,h2,h3⟩
 . rw[h v];have hu:=underlying127;have hz:=zeroValue4 W;have hk:=Zn1.check W true (v:Int);have hf:=Zn1.find W (v:Int) [] [] rfl;simp[Instr.lookup,run_underlying hu,hz,hk,hf,Zb9,Result.andThen]
 . rw[h2.lookup Zn1 underlying127 zeroValue4 (v:Int) true,h3 v];cases fx v<;>rfl
structure TtC where
 ba:Nat
 bt:Nat
 bk:Nat
 bx:Nat
 bf:Nat
 kt:Nat
 xb:Nat
def TtC.caps (c:TtC):Array Value:=#[.pointer (some ⟨c.ba,0,none⟩),.pointer (some ⟨c.bt,0,none⟩),.pointer (some ⟨c.bk,0,none⟩),.pointer (some ⟨c.bx,0,none⟩),.pointer (some ⟨c.bf,0,none⟩)]
structure TtS (F:Phi)(c:TtC)(mb:Nat)(o:Own)(m:ManD)(V:Nat->BF)(fv:Value)(fx:Nat->Option Bool)(W:World):Prop where
 is:Zed F o W mb m
 lt:Zah o W
 ok:Zaj m.d V
 n64:m.d.vars.length<=64
 x:Zfn o W c.xb mb
 ba:∃ va,W.cell? ⟨c.ba,0,none⟩=some va/\NatV W va (2^m.d.vars.length)/\∀ q,va.ownBlock=some q->o q=none
 bt:W.cell? ⟨c.bt,0,none⟩=some (.func (.func 127) #[] c.caps)
 bk:W.cell? ⟨c.bk,0,none⟩=some (.map (some c.kt))
 bx:W.cell? ⟨c.bx,0,none⟩=some (.pointer (some ⟨c.xb,0,none⟩))
 bf:W.cell? ⟨c.bf,0,none⟩=some fv
 fix:Zht W fv fx
 fne:fv ≠ .map (some c.kt)
 map:∃ l,Za5 W c.kt (Value.int .i64) l/\∀ p∈l,∃ e:Nat,p.1=(e:Int)/\NatV W p.2 (totN m.d.vars.length fx (ef V e))/\∀ q,p.2.ownBlock=some q->o q=none
 own:o c.kt=none
 ne:c.kt≠c.ba/\c.kt≠c.bt/\c.kt≠c.bk/\c.kt≠c.bx/\c.kt≠c.bf/\c.kt≠c.xb
section
variable {F:Phi}{c:TtC}{mb:Nat}{o:Own}{m:ManD}{V:Nat->BF}{fv:Value}{fx:Nat->Option Bool}{W W':World}
theorem TtS.go (h:TtS F c mb o m V fv fx W)(hx:Wr (· = c.kt) W W')(hmap:∃ l,Za5 W' c.kt (Value.int .i64) l/\∀ p∈l,∃ e:Nat,p.1=(e:Int)/\NatV W' p.2 (totN m.d.vars.length fx (ef V e))/\∀ q,p.2.ownBlock=some q->o q=none):TtS F c mb o m V fv fx W':=by
 have hc:∀ {b k:Nat} {v:Value},W.cell? ⟨b,k,none⟩=some v->c.kt≠b->W'.cell? ⟨b,k,none⟩=some v:=fun h h1=>(World.cell?_of_block (w:=W) (hx.keep _ (Zab h) (fun e=>h1 e.symm))).trans h
 obtain⟨n1,n2,n3,n4,n5,n6⟩:=h.ne;obtain⟨va,a1,a2,a3⟩:=h.ba;obtain⟨l,l1,l2⟩:=h.map;exact⟨h.is.other h.lt hx (fun k _ e=>by subst e;exact h.own),h.lt.mono hx.size,h.ok,h.n64,⟨hc h.x.cell n6,h.x.own⟩,⟨va,hc a1 n1,a2.other l1 hx,a3⟩,hc h.bt n2,hc h.bk n3,hc h.bx n4,hc h.bf n5,Zht.other (κ:=Int) h.fix h.fne hx,h.fne,hmap,h.own,h.ne⟩
theorem TtS.below (h:TtS F c mb o m V fv fx W)(hb:Below W.heap.size W W'):TtS F c mb o m V fv fx W':=by
 obtain⟨l,l1,l2⟩:=h.map;refine h.go (Wr.of_below hb _) ⟨l,l1.below hb,fun p hp=>?_⟩;obtain⟨e,e1,e2,e3⟩:=l2 p hp;exact⟨e,e1,e2.below hb,e3⟩
theorem TtS.get (h:TtS F c mb o m V fv fx W)(e:Nat):∃ r:Option Value,(∀ v,r=some v->NatV W v (totN m.d.vars.length fx (ef V e))/\∀ q,v.ownBlock=some q->o q=none) /\
 (Instr.lookup 195 (.map (some c.kt)) (.int .i64 (e:Nat)) true).run prog W=.ok (.tuple #[r.getD (.slice none 0 0),.bool r.isSome]) W:=by
 obtain⟨l,l1,l2⟩:=h.map;refine⟨getL l (e:Int),fun v hv=>?_,?_⟩
 . obtain⟨e',q1,q2,q3⟩:=l2 _ (Zc5 hv);have:e=e':=Int.ofNat.inj q1;subst this;exact⟨q2,q3⟩
 . have:=l1.lookup kEdS underlying195 zeroValue40 (e:Int) true;rw[this];cases getL l (e:Int)<;>rfl
theorem TtS.put (h:TtS F c mb o m V fv fx W)(e:Nat){v:Value}(hv:NatV W v (totN m.d.vars.length fx (ef V e)))(hq:∀ q,v.ownBlock=some q->o q=none) :
 ∃ w',(Instr.mapUpdate 195 (.map (some c.kt)) (.int .i64 (e:Nat)) v).run prog W=.ok () w'/\Wr (· = c.kt) W w'/\TtS F c mb o m V fv fx w'/\NatV w' v (totN m.d.vars.length fx (ef V e)):=by
 obtain⟨l,l1,l2⟩:=h.map;obtain⟨w',r1,r2,r3⟩:=l1.update kEdS underlying195 (e:Int) v;have hw:Wr (· = c.kt) W w':=Wr.of_grown r3 _ (fun k e=>by cases e;rfl);refine⟨w',r1,hw,h.go hw ⟨_,r2,fun p hp=>?_⟩,hv.other l1 hw⟩;have hg:=Zch r2.nodup (k:=p.1) (v:=p.2) hp;rw[Zk0 l1.nodup] at hg
 by_cases ek:p.1=(e:Int)
 . rw[if_pos ek] at hg;refine⟨e,ek,?_⟩;rw[<- Option.some.inj hg];exact⟨hv.other l1 hw,hq⟩
 . rw[if_neg ek] at hg;obtain⟨e',q1,q2,q3⟩:=l2 _ (Zc5 hg);exact⟨e',q1,q2.other l1 hw,q3⟩
def TtR (F:Phi)(c:TtC)(mb:Nat)(o:Own)(m:ManD)(V:Nat->BF)(fv:Value)(fx:Nat->Option Bool)(g:Nat)(W:World)(x:Ending)(w':World):Prop :=
 ∃ v,x=.returned v/\Wr (· = c.kt) W w'/\TtS F c mb o m V fv fx w'/\NatV w' v (totN m.d.vars.length fx (ef V g))/\∀ q,v.ownBlock=some q->o q=none
end
open Go.RowKit
section
variable {F:Phi}{c:TtC}{mb:Nat}{o:Own}{m:ManD}{V:Nat->BF}{fv:Value}{fx:Nat->Option Bool}{W:World}
theorem Yd8 (h:TtS F c mb o m V fv fx W):Calls prog 127 (#[.int .i64 0]++c.caps) W (TtR F c mb o m V fv fx 0 W):=by
 obtain⟨ba,bt,bk,bx,bf,kt,xb⟩:=c;obtain⟨va,cba,g1,g0⟩:=h.ba;have HF:Hid (TtR F ⟨ba,bt,bk,bx,bf,kt,xb⟩ mb o m V fv fx 0 W (.returned va) W):=Hd ⟨va,rfl,Wr.refl _ _,h,by rw[h.ok.dag.ef0,Zzd];exact g1,g0⟩;unfold TtC.caps;obtain⟨P,hP⟩:∃ P,P=TtR F ⟨ba,bt,bk,bx,bf,kt,xb⟩ mb o m V fv fx 0 W:=⟨_,rfl⟩;rw[<- hP] at HF ⊢;clear hP h g1 g0
 show Calls _ _ #[_,_,_,_,_,_] _ _
 go_enter func127,ntmps127
 go_wp2_with fail
 first|exact HF.out|(go_ret;exact HF.out)
theorem Yd7 {g:Nat}(hg:okE (Zaa m.d) g)(hodd:g%2=1)(IH:∀ W,TtS F c mb o m V fv fx W->Calls prog 127 (#[.int .i64 (enot g:Nat)]++c.caps) W (TtR F c mb o m V fv fx (enot g) W))(h:TtS F c mb o m V fv fx W) :
 Calls prog 127 (#[.int .i64 (g:Nat)]++c.caps) W (TtR F c mb o m V fv fx g W):=by
 obtain⟨ba,bt,bk,bx,bf,kt,xb⟩:=c;have g3:=Zg3 (K:=fun _ _=>F) (V:=V) h.is hg;have ge:¬ ((g:Nat):Int)=0:=by omega
 have g7:Hid (Calls prog 100 #[.int .i64 g] W fun x w'=>x=.returned (.bool true)/\W=w'):=Hd (by
  have:=Zgn g W g3
  rwa [show eneg g=true by simp[eneg,hodd]] at this)
 obtain⟨wz,g0⟩:∃ wz,wz=W.drew:=⟨_,rfl⟩;have g4:Below W.heap.size W wz:=by rw[g0];exact Zag W 1
 have hz:=h.below g4;have g9:=Hd g0;have g6:Hid (Calls prog 67 #[.int .i64 g] wz fun x w'=>x=.returned (.int .i64 (enot g:Nat))/\wz=w'):=Hd (Zn5 g wz g3);obtain⟨va,cba,g2,-⟩:=hz.ba;have cbt:=hz.bt;unfold TtC.caps at cbt;have HI:=Hd (IH wz hz);obtain⟨N,hN⟩:∃ N,N=m.d.vars.length:=⟨_,rfl⟩;have g8:totN N fx (ef V (enot g))<=2^N:=Zzb _ _ _;have g1:2^N-totN N fx (ef V (enot g))=totN N fx (ef V g):=by
  have:=Ybh N fx (ef V (enot g));rw[<- this];congr 1;funext ρ
  show (!ef V (enot g) ρ)=_
  rw[Zgf,Bool.not_not]
 have g5:Hid (∀ W1 v,NatV W1 v (totN N fx (ef V (enot g)))->NatV W1 va (2^N)->Calls prog 109 #[va,v] W1 fun e w'=>(∃ v',e=.returned (.tuple #[v',.bool true])/\NatV w' v' (totN N fx (ef V g))/\∀ q,v'.ownBlock=some q->W1.heap.size<=q)/\Below W1.heap.size W1 w'):=Hd fun W1 v h1 h2=>by
  have:=Zwv h2 h1 g8
  rwa [g1] at this
 rw[<- hN] at g2;have gb:=Hd g2;have gc:=Hd (Wr.of_below g4 (· = kt));obtain⟨P,hP⟩:∃ P,P=TtR F ⟨ba,bt,bk,bx,bf,kt,xb⟩ mb o m V fv fx g W:=⟨_,rfl⟩;have gd:=Hd hP;rw[<- hP];have HZ:=Hd hz;have HN:=Hd hN;have eg1:=Zgg;unfold TtC.caps at HI ⊢;clear hP h IH hg g3 g0 g4 hz g2 g8 g1 hodd hN
 show Calls _ _ #[_,_,_,_,_,_] _ _
 go_enter func127,ntmps127
 go_wp2_with fail;refine g7.out.mono ?_;rintro x w' ⟨rfl,rfl⟩;clear g7;go_upto_region 4 with fail;refine Zfw [0,1,2,3,4,5,6,7,8,9,10] (fun W'=>W'.cell? ⟨ba,0,none⟩=some va/\W'.cell? ⟨bt,0,none⟩=some (.func (.func 127) #[] #[.pointer (some ⟨ba,0,none⟩),.pointer (some ⟨bt,0,none⟩),.pointer (some ⟨bk,0,none⟩),.pointer (some ⟨bx,0,none⟩),.pointer (some ⟨bf,0,none⟩)])) (fun ch w'=>False) (fun c a w hd h=>h.elim) (by kernel_rfl) (by rw[<- g9.out];exact⟨cba,cbt⟩) ?_;rw[<- g9.out]
 iterate 3
  refine Zea rfl rfl (by kernel_rfl) ?_;apply Exists.intro;refine⟨fun w' hw=>?_,?_⟩
  . obtain⟨q1,q2⟩:=hw;go_simp;rfl
  simp only[Zai]
 refine Zbr (R1:=fun u w'=>u=.int .i64 (enot g:Nat)/\wz=w') rfl (by kernel_rfl) rfl rfl (by go_simp) (g6.out.mono fun x w' h=>⟨_,h.1,rfl,h.2⟩) (by rintro u w' ⟨_,rfl⟩;exact⟨cba,cbt⟩) ?_;rintro u w'-⟨rfl,rfl⟩;simp only[Zai]
 refine Zbr (R1:=fun u w'=>Wr (· = kt) wz w'/\TtS F ⟨ba,bt,bk,bx,bf,kt,xb⟩ mb o m V fv fx w'/\NatV w' u (totN N fx (ef V (enot g)))) rfl (by kernel_rfl) rfl rfl (by go_simp) (HI.out.mono fun x w' ⟨v,e,q1,q2,q3,_⟩=>⟨v,e,q1,q2,by rw[HN.out];exact q3⟩) (by
  rintro u w' ⟨q1,q2,_⟩;refine⟨?_,q2.bt⟩;exact(World.cell?_of_block (w:=wz) (a:=⟨ba,0,none⟩) (q1.keep ba (Zab cba) (fun e=>HZ.out.ne.1 e.symm))).trans cba) ?_
 rintro u1 w1 ⟨cba1,cbt1⟩ ⟨r1,s1,n1⟩;simp only[Zai];obtain⟨l1,ml1,_⟩:=HZ.out.map;have ga:=Hd (g5.out w1 u1 n1 (gb.out.other ml1 r1))
 refine Zbr (R1:=fun u w'=>∃ v',u=.tuple #[v',.bool true]/\(NatV w' v' (totN N fx (ef V g))/\∀ q,v'.ownBlock=some q->w1.heap.size<=q)/\Below w1.heap.size w1 w') rfl (by kernel_rfl) rfl rfl (by go_simp) (ga.out.mono fun x w' ⟨⟨v,e,q1⟩,q2⟩=>⟨_,e,v,rfl,q1,q2⟩) (by
  rintro u w' ⟨v,_,_,q⟩;exact⟨(q.cell (p:=⟨ba,0,none⟩) (Zab cba1)).trans cba1,(q.cell (p:=⟨bt,0,none⟩) (Zab cbt1)).trans cbt1⟩) ?_
 rintro u2 w2-⟨v2,rfl,⟨n2,k2⟩,p2⟩;simp only[Zai]
 have HF:Hid (P (.returned v2) w2):=Hd (by
  rw[gd.out];exact⟨v2,rfl,(gc.out.trans r1 (fun _ _ e=>e) (fun _ _ e=>e)).trans (Wr.of_below p2 (· = kt)) (fun _ _ e=>e) (fun _ _ e=>e),s1.below p2,(by rw[<- HN.out];exact n2),fun q e=>s1.lt.none (k2 q e)⟩)
 clear k2 n2 p2 n1 r1 s1 cba1 cbt1 ga HI g6 g5 ml1
 iterate 5
  refine Zea rfl rfl (by kernel_rfl) ?_;apply Exists.intro;refine⟨fun w' hw=>?_,?_⟩
  . go_simp;rfl
  simp only[Zai]
 refine Zld (by kernel_rfl) ?_;clear cba cbt;go_wp2_with fail
 first|exact HF.out|(go_ret;exact HF.out)
theorem Yd6 {g:Nat}(hg:okE (Zaa m.d) g)(h0:g≠0)(hev:g%2=0){v:Value}(hv:NatV W v (totN m.d.vars.length fx (ef V g))/\∀ q,v.ownBlock=some q->o q=none)(hlk:(Instr.lookup 195 (.map (some c.kt)) (.int .i64 (g:Nat)) true).run prog W=.ok (.tuple #[v,.bool true]) W)(h:TtS F c mb o m V fv fx W) :
 Calls prog 127 (#[.int .i64 (g:Nat)]++c.caps) W (TtR F c mb o m V fv fx g W):=by
 obtain⟨ba,bt,bk,bx,bf,kt,xb⟩:=c;have g1:=Zg3 (K:=fun _ _=>F) (V:=V) h.is hg;have g2:¬ ((g:Nat):Int)=0:=by omega
 have g0:Hid (Calls prog 100 #[.int .i64 g] W fun x w'=>x=.returned (.bool false)/\W=w'):=Hd (by
  have:=Zgn g W g1
  rwa [show eneg g=false by simp[eneg,hev]] at this)
 have cbk:=h.bk;have HF:Hid (TtR F ⟨ba,bt,bk,bx,bf,kt,xb⟩ mb o m V fv fx g W (.returned v) W):=Hd ⟨v,rfl,Wr.refl _ _,h,hv.1,hv.2⟩;unfold TtC.caps;obtain⟨P,hP⟩:∃ P,P=TtR F ⟨ba,bt,bk,bx,bf,kt,xb⟩ mb o m V fv fx g W:=⟨_,rfl⟩;rw[<- hP] at HF ⊢;clear hP h hv hg g1 hev h0
 show Calls _ _ #[_,_,_,_,_,_] _ _
 go_enter func127,ntmps127
 go_wp2_with fail;refine g0.out.mono ?_;rintro x w' ⟨rfl,rfl⟩;clear g0;go_wp2_with fail
 first|exact HF.out|(go_ret;exact HF.out)
theorem Ye3 {k:Nat}(IH:∀ g W,TtS F c mb o m V fv fx W->okE (Zaa m.d) g->m.d.vars.length<=lvE m.d.vars.length (levN m.d) (Zaa m.d) g+k->Calls prog 127 (#[.int .i64 (g:Nat)]++c.caps) W (TtR F c mb o m V fv fx g W))
 {g:Nat} {b:BN} (hb:Zaa m.d (g/2)=some b) (hev:g%2=0) (hlev:m.d.vars.length<=lvE m.d.vars.length (levN m.d) (Zaa m.d) g+(k+1)) {z:Value} (hlk:(Instr.lookup 195 (.map (some c.kt)) (.int .i64 (g:Nat)) true).run prog W=.ok (.tuple #[z,.bool false]) W) (h:TtS F c mb o m V fv fx W) :
 Calls prog 127 (#[.int .i64 (g:Nat)]++c.caps) W (TtR F c mb o m V fv fx g W):=by
 obtain⟨ba,bt,bk,bx,bf,kt,xb⟩:=c;have hg:okE (Zaa m.d) g:=.inr ⟨b,hb⟩;have gE:=Zg3 (K:=fun _ _=>F) (V:=V) h.is hg;have gs:=h.ok.dag.var _ _ hb;have hl:levN m.d b.v<=lvE m.d.vars.length (levN m.d) (Zaa m.d) g:=by unfold lvE;rw[hb];exact Nat.le_refl _
 have gT:lvE m.d.vars.length (levN m.d) (Zaa m.d) g=levN m.d b.v:=by unfold lvE;rw[hb]
 obtain⟨q1,q2,q3,q4,_⟩:=Zcs h.ok hg gs hl;obtain⟨⟨_,c0f⟩,_,c1f⟩:=Ycz h.ok hb;have gX:¬ ((g:Nat):Int)=0:=fun e=>by
  have:g/2=0:=by omega
  rw[this,h.ok.dag.none0] at hb;cases hb
 have gC:Hid (Calls prog 100 #[.int .i64 g] W fun x w'=>x=.returned (.bool false)/\W=w'):=Hd (by
  have:=Zgn g W gE
  rwa [show eneg g=false by simp[eneg,hev]] at this)
 obtain⟨lo,gp⟩:∃ z,z=(cofs m.d g b.v).1:=⟨_,rfl⟩;obtain⟨hi,gq⟩:∃ z,z=(cofs m.d g b.v).2:=⟨_,rfl⟩;rw[<- gp] at q1 q3 c0f;rw[<- gq] at q2 q4 c1f;obtain⟨bv,g3⟩:∃ z,z=b.v:=⟨_,rfl⟩;have gz:Hid (∀ W' s,TtS F ⟨ba,bt,bk,bx,bf,kt,xb⟩ mb o m V fv fx W'->W'.heap[s]?=some (.cells #[.int .i64 g] 113 (0,0))->Calls prog 101 #[.pointer (some ⟨xb,0,none⟩),.slice (some ⟨s,0,none⟩) 1 1] W' fun x w'=>x=.returned (.int .i64 (bv:Nat))/\Below W'.heap.size W' w'):=Hd fun W' s g' hs=>by
  refine(Ziy g'.is g'.lt g'.x g'.ok [g] (by simpa using hg) (some ⟨s,0,none⟩) 1 ⟨by simp,fun i gU=>?_⟩).mono ?_
  ·obtain rfl:i=0:=by simpa using gU
   exact⟨s,0,rfl,by rw[cell_of_row _ _ 0 _ _ _ hs];rfl⟩
  ·rintro x w' ⟨top,least,rfl,ht,gS⟩;rcases Zty ht with ⟨_,hn⟩|⟨b',gF,rfl⟩
   . rw[hb] at hn;cases hn
   . rw[hb] at gF;cases gF;exact⟨by rw[g3],gS⟩
 have gM:Hid (∀ W',TtS F ⟨ba,bt,bk,bx,bf,kt,xb⟩ mb o m V fv fx W'->Calls prog 102 #[.pointer (some ⟨xb,0,none⟩),.int .i64 g,.int .i64 (bv:Nat)] W' fun x w'=>x=.returned (.tuple #[.int .i64 lo,.int .i64 hi])/\Below W'.heap.size W' w'):=Hd fun W' g'=>by
  have:=Zgc g'.is g'.lt g'.x g'.ok g hg (b.v:Nat);rw[<- gp,<- gq,<- g3] at this;exact this
 have gQ:Hid (∀ W',TtS F ⟨ba,bt,bk,bx,bf,kt,xb⟩ mb o m V fv fx W'->(Instr.lookup 127 fv (.int .i64 (bv:Nat)) true).run prog W'=.ok (.tuple #[.bool ((fx bv).getD false),.bool (fx bv).isSome]) W'):=Hd fun W' g'=>g'.fix.lookup bv
 obtain⟨N,hN⟩:∃ N,N=m.d.vars.length:=⟨_,rfl⟩;have HN:=Hd hN;have gg:Hid (∀ W',TtS F ⟨ba,bt,bk,bx,bf,kt,xb⟩ mb o m V fv fx W'->Calls prog 127 #[.int .i64 lo,.pointer (some ⟨ba,0,none⟩),.pointer (some ⟨bt,0,none⟩),.pointer (some ⟨bk,0,none⟩),.pointer (some ⟨bx,0,none⟩),.pointer (some ⟨bf,0,none⟩)] W' fun x w'=>∃ v,x=.returned v/\Wr (· = kt) W' w'/\TtS F ⟨ba,bt,bk,bx,bf,kt,xb⟩ mb o m V fv fx w'/\NatV w' v (totN N fx (ef V lo))/\∀ q,v.ownBlock=some q->o q=none):=Hd fun W' g'=>by
  rw[hN];exact IH lo W' g' q1 (by omega)
 have gf:Hid (∀ W',TtS F ⟨ba,bt,bk,bx,bf,kt,xb⟩ mb o m V fv fx W'->Calls prog 127 #[.int .i64 hi,.pointer (some ⟨ba,0,none⟩),.pointer (some ⟨bt,0,none⟩),.pointer (some ⟨bk,0,none⟩),.pointer (some ⟨bx,0,none⟩),.pointer (some ⟨bf,0,none⟩)] W' fun x w'=>∃ v,x=.returned v/\Wr (· = kt) W' w'/\TtS F ⟨ba,bt,bk,bx,bf,kt,xb⟩ mb o m V fv fx w'/\NatV w' v (totN N fx (ef V hi))/\∀ q,v.ownBlock=some q->o q=none):=Hd fun W' g'=>by
  rw[hN];exact IH hi W' g' q2 (by omega)
 have hn64:=h.n64;rw[<- hN] at hn64;have g8:Hid (∀ G,totN N fx G<=18446744073709551616):=Hd fun G=>Nat.le_trans (Zzb _ _ _) (Nat.le_trans (Nat.pow_le_pow_right (by omega) hn64) (by decide))
 have g6:Hid (∀ y,fx bv=some y->totN N fx (ef V (if y then hi else lo))=totN N fx (ef V g)):=Hd fun y hy=>by
  rw[g3] at hy;cases y with
  | true=>rw[if_pos rfl,c1f,Zq6 hy]
  | false=>rw[if_neg (by simp),c0f,Zq6 hy]
 have g7:Hid (fx bv=none->(totN N fx (ef V lo)+totN N fx (ef V hi))/2=totN N fx (ef V g)):=Hd fun hy=>by
  rw[g3] at hy;rw[c0f,c1f];exact Zzc hy (by rw[hN];exact gs) _
 have g1:Hid (∀ W' v,TtS F ⟨ba,bt,bk,bx,bf,kt,xb⟩ mb o m V fv fx W'->NatV W' v (totN N fx (ef V g))->(∀ q,v.ownBlock=some q->o q=none)->∃ w',(Instr.mapUpdate 195 (.map (some kt)) (.int .i64 (g:Nat)) v).run prog W'=.ok () w'/\Wr (· = kt) W' w'/\TtS F ⟨ba,bt,bk,bx,bf,kt,xb⟩ mb o m V fv fx w'/\NatV w' v (totN N fx (ef V g))):=Hd fun W' v g' hv hq=>by
  rw[hN] at hv ⊢;exact g'.put g hv hq
 have cbk:=h.bk;have HS:=Hd h;obtain⟨P,hP⟩:∃ P,P=TtR F ⟨ba,bt,bk,bx,bf,kt,xb⟩ mb o m V fv fx g W:=⟨_,rfl⟩
 have HP:Hid (∀ w' v,Wr (· = kt) W w'->TtS F ⟨ba,bt,bk,bx,bf,kt,xb⟩ mb o m V fv fx w'->NatV w' v (totN N fx (ef V g))->(∀ q,v.ownBlock=some q->o q=none)->P (.returned v) w'):=Hd (by
  rw[hP];exact fun w' v p1 p2 p3 p4=>⟨v,rfl,p1,p2,(by rw[<- hN];exact p3),p4⟩)
 have eg1:=Zgg;unfold TtC.caps;rw[<- hP];clear hP h IH hb hev hlev hg gE gs hl gT q1 q2 q3 q4 c0f c1f gp gq g3 hN hn64
 show Calls _ _ #[_,_,_,_,_,_] _ _
 go_enter func127,ntmps127
 go_wp2_with fail;refine gC.out.mono ?_;rintro x w' ⟨rfl,rfl⟩;clear gC;have cbx:=HS.out.bx;have gk:=Zaf W (.cells #[.int .i64 g] 113);obtain⟨w4,gi⟩:∃ w4,w4=W.alloc (.cells #[.int .i64 g] 113):=⟨_,rfl⟩;rw[<- gi] at gk;have go:w4.heap[W.heap.size]?=some (.cells #[.int .i64 g] 113 (0,0)):=by rw[gi];exact heap_alloc_new _ _
 have gB:=Hd (HS.out.below gk);have gJ:=Hd (Wr.of_below gk (· = kt));have gL:=Hd (gz.out w4 _ gB.out go);have gK:Hid (Calls prog 101 #[.pointer (some ⟨xb,0,none⟩),.slice (some ⟨W.heap.size,0,none⟩) 1 1] (W.alloc (.cells #[.int .i64 g] 113)) fun x w'=>x=.returned (.int .i64 (bv:Nat))/\Below w4.heap.size w4 w'):=Hd (by have:=gL.out;rw[gi] at this ⊢;exact this);clear gk gi go gL gz;go_wp2_with fail;refine gK.out.mono ?_;rintro x w5 ⟨rfl,gu⟩;have gl:=Hd (gB.out.below gu);have gI:=Hd (gJ.out.trans (Wr.of_below gu (· = kt)) (fun _ _ e=>e) (fun _ _ e=>e));have cbx5:=gl.out.bx;have gA:=Hd (gM.out w5 gl.out);clear gu gK gB gJ cbx cbk hlk HS gM;go_wp2_with fail;refine gA.out.mono ?_;rintro x w6 ⟨rfl,gt⟩;have g2:=Hd (gl.out.below gt);have gb:=Hd (gI.out.trans (Wr.of_below gt (· = kt)) (fun _ _ e=>e) (fun _ _ e=>e));have cbf6:=g2.out.bf;have g0:=gQ.out w6 g2.out;have cbt6:=g2.out.bt;unfold TtC.caps at cbt6;clear gt gA gl gI cbx5 gQ;cases g4:fx bv with
 | some y =>
   have gj:=g6.out y g4;rw[g4] at g0;have g5:(Instr.lookup 127 fv (.int .i64 (bv:Nat)) true).run prog w6=.ok (.tuple #[.bool y,.bool true]) w6:=g0;clear g0 g4 g6 g7 g8;cases y with
   | true =>
     have gc:Hid (totN N fx (ef V hi)=totN N fx (ef V g)):=Hd gj;have HC:=Hd (gf.out w6 g2.out);clear gj gg gf;go_wp2_with fail;refine HC.out.mono ?_;rintro x w7 ⟨v7,rfl,r7,s7,n7,k7⟩;rw[gc.out] at n7;obtain⟨wc,gD,rc,sc,nc⟩:=g1.out w7 v7 s7 n7 k7;have HF:=Hd (HP.out wc v7 ((gb.out.trans r7 (fun _ _ e=>e) (fun _ _ e=>e)).trans rc (fun _ _ e=>e) (fun _ _ e=>e)) sc nc k7);have cbk8:=s7.bk;clear k7 r7 s7 n7 rc sc nc HC g1 HP g2 gb g5 cbf6 cbt6 gc;go_wp2_with fail
     first|exact HF.out|(go_ret;exact HF.out)
   | false =>
     have gc:Hid (totN N fx (ef V lo)=totN N fx (ef V g)):=Hd gj;have HC:=Hd (gg.out w6 g2.out);clear gj gg gf;go_wp2_with fail;refine HC.out.mono ?_;rintro x w7 ⟨v7,rfl,r7,s7,n7,k7⟩;rw[gc.out] at n7;obtain⟨wc,gD,rc,sc,nc⟩:=g1.out w7 v7 s7 n7 k7;have HF:=Hd (HP.out wc v7 ((gb.out.trans r7 (fun _ _ e=>e) (fun _ _ e=>e)).trans rc (fun _ _ e=>e) (fun _ _ e=>e)) sc nc k7);have cbk8:=s7.bk;clear k7 r7 s7 n7 rc sc nc HC g1 HP g2 gb g5 cbf6 cbt6 gc;go_wp2_with fail
     first|exact HF.out|(go_ret;exact HF.out)
 | none =>
   have gO:=Hd (g7.out g4);rw[g4] at g0;have g5:(Instr.lookup 127 fv (.int .i64 (bv:Nat)) true).run prog w6=.ok (.tuple #[.bool false,.bool false]) w6:=g0;clear g0 g4 g6 g7;go_upto_region 13 with fail;clear g5 cbf6;obtain⟨wz,gm⟩:∃ wz,wz=w6.drew:=⟨_,rfl⟩;have gr:Below w6.heap.size w6 wz:=by rw[gm];exact Zag w6 1
   have gH:=Hd gm;have HSZ:=Hd (g2.out.below gr);have gv:=Hd (gb.out.trans (Wr.of_below gr (· = kt)) (fun _ _ e=>e) (fun _ _ e=>e));have cz:=HSZ.out.bt;unfold TtC.caps at cz;clear gm gr;refine Zfw [0,1,3,4,2,5,6,7,8,9,10,11,12] (fun W'=>W'.cell? ⟨bt,0,none⟩=some (.func (.func 127) #[] #[.pointer (some ⟨ba,0,none⟩),.pointer (some ⟨bt,0,none⟩),.pointer (some ⟨bk,0,none⟩),.pointer (some ⟨bx,0,none⟩),.pointer (some ⟨bf,0,none⟩)])) (fun ch w'=>False) (fun c a w hd h=>h.elim) (by kernel_rfl) (by rw[<- gH.out];exact cz) ?_;rw[<- gH.out]
   iterate 4
    refine Zea rfl rfl (by kernel_rfl) ?_;apply Exists.intro;refine⟨fun w' hw=>?_,?_⟩
    . have q1:w'.cell? ⟨bt,0,none⟩=some (.func (.func 127) #[] #[.pointer (some ⟨ba,0,none⟩),.pointer (some ⟨bt,0,none⟩),.pointer (some ⟨bk,0,none⟩),.pointer (some ⟨bx,0,none⟩),.pointer (some ⟨bf,0,none⟩)]):=hw;go_simp;rfl
    simp only[Zai]
   refine Zbr (R1:=fun u w'=>Wr (· = kt) wz w'/\TtS F ⟨ba,bt,bk,bx,bf,kt,xb⟩ mb o m V fv fx w'/\NatV w' u (totN N fx (ef V lo))) rfl (by kernel_rfl) rfl rfl (by go_simp) ((gg.out wz HSZ.out).mono fun x w' ⟨v,e,h1,h2,h3,_⟩=>⟨v,e,h1,h2,h3⟩) (by rintro u w' ⟨_,q2,_⟩;exact q2.bt) ?_;rintro u1 w7-⟨r1,s1,n1⟩;simp only[Zai];refine Zbr (R1:=fun u w'=>Wr (· = kt) w7 w'/\TtS F ⟨ba,bt,bk,bx,bf,kt,xb⟩ mb o m V fv fx w'/\NatV w' u (totN N fx (ef V hi))) rfl (by kernel_rfl) rfl rfl (by go_simp) ((gf.out w7 s1).mono fun x w' ⟨v,e,h1,h2,h3,_⟩=>⟨v,e,h1,h2,h3⟩) (by rintro u w' ⟨_,q2,_⟩;exact q2.bt) ?_;rintro u2 w8-⟨r2,s2,n2⟩;simp only[Zai];obtain⟨l1,ml1,_⟩:=s1.map;have n1':=n1.other ml1 r2;obtain⟨ax,lx,cx,rfl⟩:∃ a l c,u1=.slice a l c:=by
    obtain⟨a,c,e,_⟩:=n1;exact⟨a,_,c,e⟩
   obtain⟨ay,ly,cy,rfl⟩:∃ a l c,u2=.slice a l c:=by
    obtain⟨a,c,e,_⟩:=n2;exact⟨a,_,c,e⟩
   obtain⟨w9,gh⟩:∃ w9,w9=w8.alloc (.cells #[.slice ax lx cx,.slice ay ly cy] 40):=⟨_,rfl⟩;have ga:Below w8.heap.size w8 w9:=by rw[gh];exact Zaf _ _
   have g9:w9.heap[w8.heap.size]?=some (.cells #[.slice ax lx cx,.slice ay ly cy] 40 (0,0)):=by rw[gh];exact heap_alloc_new _ _
   have gy:=Hd gh;have ge:=Hd (s2.below ga);have gx:=Hd (((gv.out.trans r1 (fun _ _ e=>e) (fun _ _ e=>e)).trans r2 (fun _ _ e=>e) (fun _ _ e=>e)).trans (Wr.of_below ga (· = kt)) (fun _ _ e=>e) (fun _ _ e=>e))
   have gG:Zuc w9 (some ⟨w8.heap.size,0,none⟩) [totN N fx (ef V lo),totN N fx (ef V hi)]:=⟨by simp,fun k hk=>by
    have gV:k<2:=by simpa using hk
    rcases(show k=0\/k=1 by omega) with rfl|rfl
    . exact⟨_,_,_,rfl,by rw[cell_of_row _ _ _ _ _ _ g9];rfl,n1'.below ga⟩
    . exact⟨_,_,_,rfl,by rw[cell_of_row _ _ _ _ _ _ g9];rfl,n2.below ga⟩⟩
   have gn:[totN N fx (ef V lo),totN N fx (ef V hi)].sum<4294967296^1000:=by
    have h1:=g8.out (ef V lo);have h2:=g8.out (ef V hi);have h3:[totN N fx (ef V lo),totN N fx (ef V hi)].sum<4294967296^3:=by
     rw[show (4294967296:Nat)^3=79228162514264337593543950336 by decide];simp only[List.sum_cons,List.sum_nil];omega
    exact Nat.lt_of_lt_of_le h3 (Nat.pow_le_pow_right (n:=4294967296) (i:=3) (j:=1000) (by omega) (by omega))
   have gR:=Hd (Zum (c:=2) gG gn);refine Yar (w':=w9) (v:=.slice (some ⟨w8.heap.size,0,none⟩) 2 2) rfl (by kernel_rfl) rfl (by go_simp<;>exact gy.out.symm) ge.out.bt ?_;simp only[Zai];refine Zbr (R1:=fun u w'=>NatV w' u (totN N fx (ef V lo)+totN N fx (ef V hi))/\Below w9.heap.size w9 w') rfl (by kernel_rfl) rfl rfl (by go_simp) (gR.out.mono fun x w' ⟨⟨v,e,q1⟩,q2⟩=>⟨v,e,by simpa using q1,q2⟩) (by rintro u w' ⟨_,q⟩;exact(q.cell (p:=⟨bt,0,none⟩) (Zab ge.out.bt)).trans ge.out.bt) ?_;rintro u3 wa-⟨n3,p3⟩;simp only[Zai];have gP:=Hd (Zg0 n3);have gd:=Hd (ge.out.below p3);refine Zbr (R1:=fun u w'=>∃ v' bb,u=.tuple #[v',.bool bb]/\(NatV w' v' ((totN N fx (ef V lo)+totN N fx (ef V hi))/2)/\∀ q,v'.ownBlock=some q->wa.heap.size<=q)/\Below wa.heap.size wa w') rfl (by kernel_rfl) rfl rfl (by go_simp) (gP.out.mono fun x w' ⟨⟨v,e,q1⟩,q2⟩=>⟨_,e,v,_,rfl,q1,q2⟩) (by rintro u w' ⟨_,_,_,_,q⟩;exact(q.cell (p:=⟨bt,0,none⟩) (Zab gd.out.bt)).trans gd.out.bt) ?_;rintro u4 wb-⟨v4,b4,rfl,⟨n4,k4⟩,p4⟩;have k5:∀ q,v4.ownBlock=some q->o q=none:=fun q e=>gd.out.lt.none (k4 q e)
   rw[gO.out] at n4;simp only[Zai];have gN:=Hd (gd.out.below p4);have gw:=Hd ((gx.out.trans (Wr.of_below p3 (· = kt)) (fun _ _ e=>e) (fun _ _ e=>e)).trans (Wr.of_below p4 (· = kt)) (fun _ _ e=>e) (fun _ _ e=>e));obtain⟨wc,gD,rc,sc,nc⟩:=g1.out wb v4 gN.out n4 k5;have HF:=Hd (HP.out wc v4 (gw.out.trans rc (fun _ _ e=>e) (fun _ _ e=>e)) sc nc k5);have cbk8:=gN.out.bk;clear k4 k5 n1 n1' n2 n3 n4 r1 r2 s1 s2 gh ga g9 gG gn ml1 p3 p4 rc sc nc gR gP gg gf ge gx gd gw g1 g8 gO gy cz HSZ gv
   iterate 4
    refine Zea rfl rfl (by kernel_rfl) ?_;apply Exists.intro;refine⟨fun w' hw=>?_,?_⟩
    . go_simp;rfl
    simp only[Zai]
   refine Zld (by kernel_rfl) ?_;go_wp2_with fail
   first|exact HF.out|(go_ret;exact HF.out)
theorem Zq7 {k:Nat}(IH:∀ j,k=j+1->∀ g W,TtS F c mb o m V fv fx W->okE (Zaa m.d) g->m.d.vars.length<=lvE m.d.vars.length (levN m.d) (Zaa m.d) g+j->Calls prog 127 (#[.int .i64 (g:Nat)]++c.caps) W (TtR F c mb o m V fv fx g W))
 {g:Nat} (h:TtS F c mb o m V fv fx W) (hg:okE (Zaa m.d) g) (hev:g%2=0) (hl:m.d.vars.length<=lvE m.d.vars.length (levN m.d) (Zaa m.d) g+k) :
 Calls prog 127 (#[.int .i64 (g:Nat)]++c.caps) W (TtR F c mb o m V fv fx g W):=by
 by_cases h0:g=0
 . subst h0;exact Yd8 h
 ·rcases hg with h1|⟨b,hb⟩
  . omega
  ·obtain⟨r,hr,g0⟩:=h.get g;cases r with
   | some v=>exact Yd6 (.inr ⟨b,hb⟩) h0 hev (hr v rfl) g0 h
   | none =>
     cases k with
     | zero =>
       exfalso;have h1:=h.ok.dag.lt b.v (h.ok.dag.var _ _ hb);unfold lvE at hl;rw[hb] at hl;simp at hl;omega
     | succ j=>exact Ye3 (fun g W=>IH j rfl g W) hb hev hl g0 h
theorem Zt0 {k:Nat}(IH:∀ j,k=j+1->∀ g W,TtS F c mb o m V fv fx W->okE (Zaa m.d) g->m.d.vars.length<=lvE m.d.vars.length (levN m.d) (Zaa m.d) g+j->Calls prog 127 (#[.int .i64 (g:Nat)]++c.caps) W (TtR F c mb o m V fv fx g W))
 {g:Nat} (h:TtS F c mb o m V fv fx W) (hg:okE (Zaa m.d) g) (hl:m.d.vars.length<=lvE m.d.vars.length (levN m.d) (Zaa m.d) g+k) :
 Calls prog 127 (#[.int .i64 (g:Nat)]++c.caps) W (TtR F c mb o m V fv fx g W):=by
 rcases(show g%2=0\/g%2=1 by omega) with he|he
 . exact Zq7 IH h hg he hl
 . refine Yd7 hg he (fun W h=>Zq7 IH h (Zn7 hg) (by rw[Zj8];omega) ?_) h;unfold lvE at hl ⊢;rw[Zd2];exact hl
theorem Zze:∀ (k g:Nat) (W:World),TtS F c mb o m V fv fx W->okE (Zaa m.d) g->m.d.vars.length<=lvE m.d.vars.length (levN m.d) (Zaa m.d) g+k->Calls prog 127 (#[.int .i64 (g:Nat)]++c.caps) W (TtR F c mb o m V fv fx g W)
 | 0,_,_,h,hg,hl=>Zt0 (k:=0) (fun j e=>by omega) h hg hl
 | k+1,_,_,h,hg,hl=>Zt0 (k:=k+1) (fun j e g W h hg hl=>by
  obtain rfl:k=j:=by omega
  exact Zze k g W h hg hl) h hg hl
end
open Go.RowKit
def ctL (cs:List (Nat×Nat)):List (Int×Value):=cs.map fun p=>((p.1:Int),(.int .i64 (p.2:Nat):Value))
theorem Zrn (v:Nat):∀ (cs:List (Nat×Nat)) (i:Nat),(Zb9 (v:Int) (ctL cs) i=none/\getC v cs=0/\Zfo v cs=cs++[(v,1)])\/∃ j,Zb9 (v:Int) (ctL cs) i=some (i+j,.int .i64 (getC v cs:Nat))/\Zfo v cs=cs.set j (v,getC v cs+1)
 | [],i=>.inl ⟨rfl,rfl,rfl⟩
 | p::r,i=>by
   by_cases h:p.1=v
   ·refine .inr ⟨0,?_,?_⟩
    ·show (if (p.1:Int)=(v:Int) then _ else _)=_
     rw[if_pos (by rw[h])];simp[getC,h]
    . simp[Zfo,getC,h]
   ·have hne:¬ (p.1:Int)=(v:Int):=fun e=>h (Int.ofNat.inj e)
    have e1:∀ i,Zb9 (v:Int) (ctL (p::r)) i=Zb9 (v:Int) (ctL r) (i+1):=fun i=>by
     show (if (p.1:Int)=(v:Int) then _ else _)=_
     rw[if_neg hne];rfl
    rcases Zrn v r (i+1) with ⟨a,b,c⟩|⟨j,a,b⟩
    . exact .inl ⟨by rw[e1,a],by simp[getC,h,b],by simp[Zfo,h,c]⟩
    ·refine .inr ⟨j+1,?_,?_⟩
     . rw[e1,a];simp[getC,h];omega
     . simp[Zfo,h,b,getC]
theorem Zpe {w:World}{b:Nat}{cs:List (Nat×Nat)}(h:Za5 w b (Value.int .i64) (ctL cs))(v:Nat) :
 (Instr.lookup 202 (.map (some b)) (.int .i64 (v:Nat)) false).run prog w=.ok (.int .i64 (getC v cs:Nat)) w:=by
 have:=h.lookup Zn1 underlying202 zeroValue3 (v:Int) false;rw[this];unfold getL;rcases Zrn v cs 0 with ⟨a,b,_⟩|⟨j,a,_⟩
 . rw[a,b];simp
 . rw[a];simp
theorem Zwy {w:World}{b:Nat}{cs:List (Nat×Nat)}(h:Za5 w b (Value.int .i64) (ctL cs))(v:Nat){c:Int}(hc:c=(getC v cs+1:Nat)) :
 ∃ w',(Instr.mapUpdate 202 (.map (some b)) (.int .i64 (v:Nat)) (.int .i64 c)).run prog w=.ok () w'/\Za5 w' b (Value.int .i64) (ctL (Zfo v cs))/\w.grownBy w' (some b):=by
 obtain⟨w',h1,h2,h3⟩:=h.update Zn1 underlying202 (v:Int) (.int .i64 c);refine⟨w',h1,?_,h3⟩;have e:putL (v:Int) (.int .i64 c) (ctL cs)=ctL (Zfo v cs):=by
  unfold putL;subst hc;rcases Zrn v cs 0 with ⟨a,b,q⟩|⟨j,a,q⟩
  . rw[a,q];simp[ctL,b]
  . rw[a,q];simp[ctL,List.map_set]
 rw[<- e];exact h2
open Go.RowKit
theorem Zns (args:Array Value)(w:World):(callFunc 170 args).run prog w=.ok (.enter 170 args) w:=enters_of func170 (by kernel_rfl) rfl args w
structure SnC where
 bm:Nat
 bx:Nat
 bn:Nat
 bd:Nat
 mt:Nat
 nt:Nat
 xb:Nat
def SnC.caps (c:SnC):Array Value:=#[.pointer (some ⟨c.bm,0,none⟩),.pointer (some ⟨c.bx,0,none⟩),.pointer (some ⟨c.bn,0,none⟩),.pointer (some ⟨c.bd,0,none⟩)]
def SnC.two (c:SnC)(k:Nat):Prop:=k=c.mt\/k=c.nt
structure SnS (F:Phi)(c:SnC)(mb:Nat)(o:Own)(m:ManD)(V:Nat->BF)(met:List Nat)(cs:List (Nat×Nat))(W:World):Prop where
 is:Zed F o W mb m
 lt:Zah o W
 ok:Zaj m.d V
 x:Zfn o W c.xb mb
 bm:W.cell? ⟨c.bm,0,none⟩=some (.map (some c.mt))
 bx:W.cell? ⟨c.bx,0,none⟩=some (.pointer (some ⟨c.xb,0,none⟩))
 bn:W.cell? ⟨c.bn,0,none⟩=some (.map (some c.nt))
 bd:W.cell? ⟨c.bd,0,none⟩=some (.func (.func 170) #[] c.caps)
 map:Za5 W c.mt (Value.int .i64) (mtL met)
 cnt:Za5 W c.nt (Value.int .i64) (ctL cs)
 own:∀ q,(q=c.bm\/q=c.bx\/q=c.bn\/q=c.bd\/q=c.mt\/q=c.nt)->o q=none
 ne:c.mt≠c.bm/\c.mt≠c.bx/\c.mt≠c.bn/\c.mt≠c.bd/\c.mt≠c.xb/\c.mt≠c.nt
 ne2:c.nt≠c.bm/\c.nt≠c.bx/\c.nt≠c.bn/\c.nt≠c.bd/\c.nt≠c.xb
 mok:Ziv m.d met
section
variable {F:Phi}{c:SnC}{mb:Nat}{o:Own}{m:ManD}{V:Nat->BF}{met met':List Nat}{cs cs':List (Nat×Nat)}{W W':World}
theorem SnS.go (h:SnS F c mb o m V met cs W)(hx:Wr c.two W W')(hm:Za5 W' c.mt (Value.int .i64) (mtL met'))(hn:Za5 W' c.nt (Value.int .i64) (ctL cs'))(hk:Ziv m.d met'):SnS F c mb o m V met' cs' W':=by
 have hc:∀ {b k:Nat} {v:Value},W.cell? ⟨b,k,none⟩=some v->c.mt≠b->c.nt≠b->W'.cell? ⟨b,k,none⟩=some v:=fun h h1 h2=>(World.cell?_of_block (w:=W) (hx.keep _ (Zab h) (fun e=>e.elim (fun e=>h1 e.symm) (fun e=>h2 e.symm)))).trans h
 obtain⟨n1,n2,n3,n4,n5,n6⟩:=h.ne;obtain⟨k1,k2,k3,k4,k5⟩:=h.ne2;exact⟨h.is.other h.lt hx (fun k _ e=>h.own k (.inr (.inr (.inr (.inr e))))),h.lt.mono hx.size,h.ok,⟨hc h.x.cell n5 k5,h.x.own⟩,hc h.bm n1 k1,hc h.bx n2 k2,hc h.bn n3 k3,hc h.bd n4 k4,hm,hn,h.own,h.ne,h.ne2,hk⟩
theorem SnS.below (h:SnS F c mb o m V met cs W)(hb:Below W.heap.size W W'):SnS F c mb o m V met cs W':=h.go (Wr.of_below hb _) (h.map.below hb) (h.cnt.below hb) h.mok
def SnR (F:Phi)(c:SnC)(mb:Nat)(o:Own)(m:ManD)(V:Nat->BF)(met:List Nat)(W:World)(x:Ending)(w':World):Prop:=x=.returned (.tuple #[])/\Wr c.two W w'/\SnS F c mb o m V met (tally m.d met) w'
theorem Zlj (h:SnS F c mb o m V met (tally m.d met) W){f:Nat}(hf:okE (Zaa m.d) f)(hst:f/2=0\/f/2∈met):Calls prog 170 (#[.int .i64 f]++c.caps) W (SnR F c mb o m V met W):=by
 obtain⟨bm,bx,bn,bd,mt,nt,xb⟩:=c;have g2:=Zg3 (K:=fun _ _=>F) (V:=V) h.is hf;have g0:Hid (∀ q,Calls prog 99 #[.int .i64 f] (W.drewN q) fun x w'=>x=.returned (.bool (decide (enode f=0)))/\W.drewN q=w'):=Hd fun q=>Zpc f _ g2
 have g1:Hid (∀ q,Calls prog 142 #[.int .i64 f] (W.drewN q) fun x w'=>x=.returned (.int .i64 (enode f:Nat))/\W.drewN q=w'):=Hd fun q=>Zbx f _ g2
 have g3:∀ q,(Instr.lookup 127 (.map (some mt)) (.int .i64 (enode f:Nat)) false).run prog (W.drewN q)=.ok (.bool (decide (enode f∈met))) (W.drewN q):=fun q=>Zmy (h.below (Zag W q)).map (enode f)
 have cbm:=h.bm;have HF:Hid (∀ q,SnR F ⟨bm,bx,bn,bd,mt,nt,xb⟩ mb o m V met W (.returned (.tuple #[])) (W.drewN q)):=Hd fun q=>⟨rfl,Wr.of_below (Zag W q) _,h.below (Zag W q)⟩
 obtain⟨P,hP⟩:∃ P,P=SnR F ⟨bm,bx,bn,bd,mt,nt,xb⟩ mb o m V met W:=⟨_,rfl⟩;rw[<- hP] at HF ⊢;unfold SnC.caps;clear hP h
 show Calls _ _ #[_,_,_,_,_] _ _
 rcases hst with h0|h0
 ·rw[decide_eq_true (show enode f=0 from h0)] at g0
  go_enter func170,ntmps170
  go_wp2_with fail
  go_quiet ((first|(with_reducible exact Zbj (g0.out _))|(with_reducible exact Zbj (g1.out _))))
  go_wp2_with fail;refine bodyPost_ret (results_none rfl _ _ _) rfl ?_;exact HF.out _
 ·simp only[decide_eq_true (show enode f∈met from h0)] at g3
  by_cases h1:enode f=0
  ·rw[decide_eq_true h1] at g0
   go_enter func170,ntmps170
   go_wp2_with fail
   go_quiet ((first|(with_reducible exact Zbj (g0.out _))|(with_reducible exact Zbj (g1.out _))))
   go_wp2_with fail;refine bodyPost_ret (results_none rfl _ _ _) rfl ?_;exact HF.out _
  ·rw[decide_eq_false h1] at g0
   go_enter func170,ntmps170
   go_wp2_with fail
   go_quiet ((first|(with_reducible exact Zbj (g0.out _))|(with_reducible exact Zbj (g1.out _))))
   go_wp2_with fail;refine bodyPost_ret (results_none rfl _ _ _) rfl ?_;exact HF.out _
theorem Yd2 {k:Nat}(IH:∀ met f W,SnS F c mb o m V met (tally m.d met) W->okE (Zaa m.d) f->m.d.vars.length<=lvE m.d.vars.length (levN m.d) (Zaa m.d) f+k->Calls prog 170 (#[.int .i64 (f:Nat)]++c.caps) W (SnR F c mb o m V (Zb0 m.d k met f) W))
 (h:SnS F c mb o m V met (tally m.d met) W) {f:Nat} {b:BN} (hb:Zaa m.d (f/2)=some b) (hnm:f/2∉met) (hlev:m.d.vars.length<=lvE m.d.vars.length (levN m.d) (Zaa m.d) f+(k+1)) :
 Calls prog 170 (#[.int .i64 f]++c.caps) W (SnR F c mb o m V (Zb0 m.d k (Zb0 m.d k (met++[f/2]) (cofs m.d f b.v).1) (cofs m.d f b.v).2) W):=by
 obtain⟨bm,bx,bn,bd,mt,nt,xb⟩:=c;have hf:okE (Zaa m.d) f:=.inr ⟨b,hb⟩;have g7:∀ e,okE (Zaa m.d) e->e<eMax:=fun e he=>Zg3 (K:=fun _ _=>F) (V:=V) h.is he
 have ga:=g7 f hf;have gB:=h.ok.dag.var _ _ hb;have hl:levN m.d b.v<=lvE m.d.vars.length (levN m.d) (Zaa m.d) f:=by unfold lvE;rw[hb];exact Nat.le_refl _
 have h5:lvE m.d.vars.length (levN m.d) (Zaa m.d) f=levN m.d b.v:=by unfold lvE;rw[hb]
 obtain⟨q1,q2,q3,q4,_⟩:=Zcs h.ok hf gB hl;have h0:enode f≠0:=fun e=>by
  have:f/2=0:=e;rw[this,h.ok.dag.none0] at hb;cases hb
 have g6:=h.mok;have g3:=g6.snoc hb hnm;have gA:getC b.v (tally m.d met)<=2305843009213693952:=by
  have h1:=Yb3 b.v (tally m.d met);rw[Zls] at h1;have h2:=g6.len g7;omega
 obtain⟨lo,gb⟩:∃ z,z=(cofs m.d f b.v).1:=⟨_,rfl⟩;obtain⟨hi,gc⟩:∃ z,z=(cofs m.d f b.v).2:=⟨_,rfl⟩;rw[<- gb,<- gc];rw[<- gb] at q1 q3;rw[<- gc] at q2 q4;obtain⟨bv,g2⟩:∃ z,z=b.v:=⟨_,rfl⟩;have gu:Hid (∀ q,Calls prog 99 #[.int .i64 f] (W.drewN q) fun x w'=>x=.returned (.bool false)/\W.drewN q=w'):=Hd fun q=>by
  have:=Zpc f (W.drewN q) ga
  rwa [decide_eq_false h0] at this
 have gQ:Hid (∀ W',Calls prog 142 #[.int .i64 f] W' fun x w'=>x=.returned (.int .i64 (enode f:Nat))/\W'=w'):=Hd fun W'=>Zbx f W' ga
 have gP:Hid (∀ q,Calls prog 142 #[.int .i64 f] (W.drewN q) fun x w'=>x=.returned (.int .i64 (enode f:Nat))/\W.drewN q=w'):=Hd fun q=>Zbx f _ ga
 have h4:∀ q,(Instr.lookup 127 (.map (some mt)) (.int .i64 (enode f:Nat)) false).run prog (W.drewN q)=.ok (.bool false) (W.drewN q):=fun q=>by
  have:=Zmy (h.below (Zag W q)).map (enode f)
  rwa [decide_eq_false (show ¬ enode f∈met from hnm)] at this
 have g5:mt≠nt:=h.ne.2.2.2.2.2;have gK:Hid (∀ W',SnS F ⟨bm,bx,bn,bd,mt,nt,xb⟩ mb o m V met (tally m.d met) W'->∃ w',(Instr.mapUpdate 127 (.map (some mt)) (.int .i64 (enode f:Nat)) (.bool true)).run prog W'=.ok () w'/\Wr (SnC.two ⟨bm,bx,bn,bd,mt,nt,xb⟩) W' w'/\SnS F ⟨bm,bx,bn,bd,mt,nt,xb⟩ mb o m V (met++[f/2]) (tally m.d met) w'):=Hd fun W' g=>by
  obtain⟨w',r1,r2,r3⟩:=Zvd g.map (f:=enode f) hnm;have hw:Wr (· = mt) W' w':=Wr.of_grown r3 _ (fun k e=>by cases e;rfl);have g1:Wr (SnC.two ⟨bm,bx,bn,bd,mt,nt,xb⟩) W' w':=hw.mono (fun _ e=>.inl e);exact⟨w',r1,g1,g.go g1 r2 (g.cnt.keepB (hw.keep _ g.cnt.lt (fun e=>g5 e.symm))) g3⟩
 have gt:Hid (∀ W',SnS F ⟨bm,bx,bn,bd,mt,nt,xb⟩ mb o m V (met++[f/2]) (tally m.d met) W'->(Instr.lookup 202 (.map (some nt)) (.int .i64 (bv:Nat)) false).run prog W'=.ok (.int .i64 (getC b.v (tally m.d met):Nat)) W'):=Hd fun W' g=>by
  rw[g2];exact Zpe g.cnt b.v
 have gs:Hid (∀ W',SnS F ⟨bm,bx,bn,bd,mt,nt,xb⟩ mb o m V (met++[f/2]) (tally m.d met) W'->∃ w',(Instr.mapUpdate 202 (.map (some nt)) (.int .i64 (bv:Nat)) (.int .i64 ((getC b.v (tally m.d met):Nat)+1))).run prog W'=.ok () w'/\Wr (SnC.two ⟨bm,bx,bn,bd,mt,nt,xb⟩) W' w'/\SnS F ⟨bm,bx,bn,bd,mt,nt,xb⟩ mb o m V (met++[f/2]) (tally m.d (met++[f/2])) w'):=Hd fun W' g=>by
  rw[g2];obtain⟨w',r1,r2,r3⟩:=Zwy g.cnt b.v (c:=((getC b.v (tally m.d met):Nat):Int)+1) (by omega);have hw:Wr (· = nt) W' w':=Wr.of_grown r3 _ (fun k e=>by cases e;rfl);have g1:Wr (SnC.two ⟨bm,bx,bn,bd,mt,nt,xb⟩) W' w':=hw.mono (fun _ e=>.inr e);rw[<- Zsl met hb] at r2;exact⟨w',r1,g1,g.go g1 (g.map.keepB (hw.keep _ g.map.lt (fun e=>g5 e))) r2 g3⟩
 have gm:Hid (∀ W' s,SnS F ⟨bm,bx,bn,bd,mt,nt,xb⟩ mb o m V (met++[f/2]) (tally m.d met) W'->W'.heap[s]?=some (.cells #[.int .i64 f] 113 (0,0))->Calls prog 101 #[.pointer (some ⟨xb,0,none⟩),.slice (some ⟨s,0,none⟩) 1 1] W' fun x w'=>x=.returned (.int .i64 (bv:Nat))/\Below W'.heap.size W' w'):=Hd fun W' s g hs=>by
  refine(Ziy g.is g.lt g.x g.ok [f] (by simpa using hf) (some ⟨s,0,none⟩) 1 ⟨by simp,fun i h6=>?_⟩).mono ?_
  ·obtain rfl:i=0:=by simpa using h6
   exact⟨s,0,rfl,by rw[cell_of_row _ _ 0 _ _ _ hs];rfl⟩
  ·rintro x w' ⟨top,least,rfl,ht,gZ⟩;rcases Zty ht with ⟨_,hn⟩|⟨b',gC,rfl⟩
   . rw[hb] at hn;cases hn
   . rw[hb] at gC;cases gC;exact⟨by rw[g2],gZ⟩
 have gN:Hid (∀ W' cs,SnS F ⟨bm,bx,bn,bd,mt,nt,xb⟩ mb o m V (met++[f/2]) cs W'->Calls prog 102 #[.pointer (some ⟨xb,0,none⟩),.int .i64 f,.int .i64 (bv:Nat)] W' fun x w'=>x=.returned (.tuple #[.int .i64 lo,.int .i64 hi])/\Below W'.heap.size W' w'):=Hd fun W' cs g=>by
  have:=Zgc g.is g.lt g.x g.ok f hf (b.v:Nat);rw[<- gb,<- gc,<- g2] at this;exact this
 have gS:Hid (∀ W',SnS F ⟨bm,bx,bn,bd,mt,nt,xb⟩ mb o m V (met++[f/2]) (tally m.d (met++[f/2])) W'->Calls prog 170 #[.int .i64 lo,.pointer (some ⟨bm,0,none⟩),.pointer (some ⟨bx,0,none⟩),.pointer (some ⟨bn,0,none⟩),.pointer (some ⟨bd,0,none⟩)] W' (SnR F ⟨bm,bx,bn,bd,mt,nt,xb⟩ mb o m V (Zb0 m.d k (met++[f/2]) lo) W')):=Hd fun W' g=>IH _ lo W' g q1 (by omega)
 have gR:Hid (∀ W',SnS F ⟨bm,bx,bn,bd,mt,nt,xb⟩ mb o m V (Zb0 m.d k (met++[f/2]) lo) (tally m.d (Zb0 m.d k (met++[f/2]) lo)) W'->Calls prog 170 #[.int .i64 hi,.pointer (some ⟨bm,0,none⟩),.pointer (some ⟨bx,0,none⟩),.pointer (some ⟨bn,0,none⟩),.pointer (some ⟨bd,0,none⟩)] W' (SnR F ⟨bm,bx,bn,bd,mt,nt,xb⟩ mb o m V (Zb0 m.d k (Zb0 m.d k (met++[f/2]) lo) hi) W')):=Hd fun W' g=>IH _ hi W' g q2 (by omega)
 have cbm:=h.bm;have HS:=Hd h;obtain⟨P,hP⟩:∃ P,P=SnR F ⟨bm,bx,bn,bd,mt,nt,xb⟩ mb o m V (Zb0 m.d k (Zb0 m.d k (met++[f/2]) lo) hi) W:=⟨_,rfl⟩;have HP:Hid (∀ x w',SnR F ⟨bm,bx,bn,bd,mt,nt,xb⟩ mb o m V (Zb0 m.d k (Zb0 m.d k (met++[f/2]) lo) hi) W x w'->P x w'):=Hd (by rw[hP];exact fun _ _ e=>e);have eg1:=Zns;obtain⟨g0,gi⟩:∃ g,g=getC b.v (tally m.d met):=⟨_,rfl⟩;rw[<- gi] at gA;have h8:IntKind.i64.wrap ((g0:Nat)+1)=(g0:Nat)+1:=IntWalk.i64_in _ ⟨by omega,by omega⟩;rw[<- gi] at gt gs;rw[<- hP];unfold SnC.caps;clear hP h IH hb hnm hlev hf ga g7 gB hl h5 q1 q2 q3 q4 h0 gb gc g2 g6 g3 gA gi g5
 show Calls _ _ #[_,_,_,_,_] _ _
 go_enter func170,ntmps170
 go_wp2_with fail
 go_quiet ((first|(with_reducible exact Zbj (gu.out _))|(with_reducible exact Zbj (gP.out _))))
 go_upto_region 1 with fail;obtain⟨w1,gg⟩:∃ w1,w1=(W.drewN nq).drew:=⟨_,rfl⟩;have gl:Below W.heap.size W w1:=by rw[gg];exact Zag W (nq+1)
 have gr:=Hd (HS.out.below gl);have HW1:=Hd (Wr.of_below gl (SnC.two ⟨bm,bx,bn,bd,mt,nt,xb⟩));have gD:=Hd gg;have cbm1:=gr.out.bm;clear gg gl;refine Zfw [0,1,2,3] (fun W'=>W'.cell? ⟨bm,0,none⟩=some (.map (some mt))) (fun ch w'=>False) (fun c a w hd h=>h.elim) (by kernel_rfl) (by rw[<- gD.out];exact cbm1) ?_;rw[<- gD.out]
 iterate 2
  refine Zea rfl rfl (by kernel_rfl) ?_;apply Exists.intro;refine⟨fun w' hw=>?_,?_⟩
  . have q1:w'.cell? ⟨bm,0,none⟩=some (.map (some mt)):=hw;go_simp;rfl
  simp only[Zai]
 refine Zbr (R1:=fun u w'=>u=.int .i64 (enode f:Nat)/\w1=w') rfl (by kernel_rfl) rfl rfl (by go_simp) ((gQ.out w1).mono fun x w' h=>⟨_,h.1,rfl,h.2⟩) (by rintro u w' ⟨_,rfl⟩;exact cbm1) ?_;rintro u w'-⟨rfl,rfl⟩;simp only[Zai];obtain⟨w2,gX,g1,gz⟩:=gK.out w1 gr.out;have gf:=Hd gz;have gJ:=Hd (HW1.out.trans g1 (fun _ _ e=>e) (fun _ _ e=>e));refine Zx9 (w':=w2) rfl (by kernel_rfl) rfl rfl (by go_simp) gf.out.bm ?_;simp only[Zai];refine Zld (by kernel_rfl) ?_;clear gX g1 gz cbm1 cbm;have cbx:=gf.out.bx;have gd:=Zaf w2 (.cells #[.int .i64 f] 113);obtain⟨w4,g4⟩:∃ w4,w4=w2.alloc (.cells #[.int .i64 f] 113):=⟨_,rfl⟩;rw[<- g4] at gd;have h3:=Hd g4;have gh:w4.heap[w2.heap.size]?=some (.cells #[.int .i64 f] 113 (0,0)):=by rw[g4];exact heap_alloc_new _ _
 have gq:=Hd (gf.out.below gd);have gI:=Hd (gJ.out.trans (Wr.of_below gd _) (fun _ _ e=>e) (fun _ _ e=>e));have gM:=Hd (gm.out w4 _ gq.out gh);have gL:Hid (Calls prog 101 #[.pointer (some ⟨xb,0,none⟩),.slice (some ⟨w2.heap.size,0,none⟩) 1 1] (w2.alloc (.cells #[.int .i64 f] 113)) fun x w'=>x=.returned (.int .i64 (bv:Nat))/\Below w4.heap.size w4 w'):=Hd (by have:=gM.out;rw[g4] at this ⊢;exact this);clear gd g4 gh gM;go_wp2_with fail;refine gL.out.mono ?_;rintro x w5 ⟨rfl,gk⟩;have ge:=Hd (gq.out.below gk);have gH:=Hd (gI.out.trans (Wr.of_below gk _) (fun _ _ e=>e) (fun _ _ e=>e));have cbn5:=ge.out.bn;have gY:=gt.out w5 ge.out;obtain⟨w6,gV,gx,g9⟩:=gs.out w5 ge.out;have gO:=Hd g9;have gG:=Hd (gH.out.trans gx (fun _ _ e=>e) (fun _ _ e=>e));have cbx6:=g9.bx;have gn:=Hd (gN.out w6 _ g9);clear gk gx g9 gL cbx gq gI gf gJ gr HW1 h3 h4;go_wp2_with fail;refine gn.out.mono ?_;rintro x w7 ⟨rfl,gj⟩;have gp:=Hd (gO.out.below gj);have gF:=Hd (gG.out.trans (Wr.of_below gj _) (fun _ _ e=>e) (fun _ _ e=>e));have cbd:=gp.out.bd;unfold SnC.caps at cbd;have gU:=Hd (gS.out w7 gp.out);clear gj ge gH gS gm gN gK gQ gP gu gt gs gO gG gY gV cbx6 cbn5 gn;go_wp2_with fail;refine gU.out.mono ?_;rintro x w8 ⟨rfl,gw,g8⟩;have h7:=Hd g8;have gE:=Hd (gF.out.trans gw (fun _ _ e=>e) (fun _ _ e=>e));have gT:=Hd (gR.out w8 g8);have cbd8:=g8.bd;unfold SnC.caps at cbd8;clear gw g8 cbd gU gR gp gF;go_wp2_with fail;refine gT.out.mono ?_;rintro x w9 ⟨rfl,gv,gy⟩;have HF:=Hd (HP.out (.returned (.tuple #[])) w9 ⟨rfl,gE.out.trans gv (fun _ _ e=>e) (fun _ _ e=>e),gy⟩);clear gv gy cbd8 gT h7 gE HP;go_wp2_with fail;refine bodyPost_end (results_none rfl _ _ _) rfl ?_;exact HF.out
theorem Ztn:∀ (k:Nat) (met:List Nat) (f:Nat) (W:World),SnS F c mb o m V met (tally m.d met) W->okE (Zaa m.d) f->m.d.vars.length<=lvE m.d.vars.length (levN m.d) (Zaa m.d) f+k->Calls prog 170 (#[.int .i64 (f:Nat)]++c.caps) W (SnR F c mb o m V (Zb0 m.d k met f) W)
 | 0,met,f,W,h,hf,hl=>by
   refine Zlj h hf (.inl ?_);rcases hf with h1|⟨b,hb⟩
   . exact h1
   . exfalso;have h1:=h.ok.dag.lt b.v (h.ok.dag.var _ _ hb);unfold lvE at hl;rw[hb] at hl;simp at hl;omega
 | k+1,met,f,W,h,hf,hl=>by
   unfold Zb0;cases hb:Zaa m.d (f/2) with
   | none =>
     refine Zlj h hf (.inl ?_);rcases hf with h1|⟨b,hb'⟩
     . exact h1
     . rw[hb] at hb';cases hb'
   | some b =>
     show Calls _ _ _ _ (SnR F c mb o m V (if f/2∈met then met else _) W)
     by_cases hm:f/2∈met
     . rw[if_pos hm];exact Zlj h hf (.inr hm)
     . rw[if_neg hm];exact Yd2 (fun met f W=>Ztn k met f W) h hb hm hl
end
open Go.RowKit
theorem Zpn (args:Array Value)(w:World):(callFunc 169 args).run prog w=.ok (.enter 169 args) w:=enters_of func169 (by kernel_rfl) rfl args w
structure BoN (wB:World)(bn bl:Nat)(a:Option Addr)(c:Nat)(ks:List Int)(W:World):Prop where
 n:∃ v,W.heap[bn]?=some (.cells #[v] 202 (0,0))
 l:W.cell? ⟨bl,0,none⟩=some (.slice a ks.length c)
 z:Zau W a ks
 s:∀ x,a=some x->W.heap[x.block]?=wB.heap[x.block]?
def CsN (bn bl:Nat)(a:Option Addr)(k:Nat):Prop:=k=bn\/k=bl\/∃ x,a=some x/\k=x.block
theorem BoN.keep {wB:World}{bn bl c:Nat}{a:Option Addr}{ks:List Int}{W W':World}(h:BoN wB bn bl a c ks W)(hk:∀ k,CsN bn bl a k->W'.heap[k]?=W.heap[k]?):BoN wB bn bl a c ks W' :=
 ⟨by rw[hk _ (.inl rfl)];exact h.n,(World.cell?_of_block (w:=W) (a:=⟨bl,0,none⟩) (hk _ (.inr (.inl rfl)))).trans h.l,⟨h.z.len,fun i hi=>by
  obtain⟨b,off,e,hc⟩:=h.z.cells i hi;exact⟨b,off,e,(World.cell?_of_block (w:=W) (a:=⟨b,off+i,none⟩) (hk _ (.inr (.inr ⟨_,e,rfl⟩)))).trans hc⟩⟩,fun x hx=>(hk _ (.inr (.inr ⟨x,hx,rfl⟩))).trans (h.s x hx)⟩
section
variable {K:Law}{n:Nat}{Od:List Nat->Prop}{room:Nat}{w0 w:World}{mb xb:Nat}{fs:List (Int×BF)}{nx:Int}{o:Own}{m:ManD}{V:Nat->BF}
theorem SatE.edges (h:SatE K n Od room w0 mb fs nx w o m V){ks:List Int}{Fs:List BF}(hlen:Fs.length=ks.length)(hm:∀ i (h:i<ks.length),(ks[i],Fs[i]'(by omega))∈fs) :
 ∃ es:List Nat,es.length=ks.length/\es.map (ef V)=Fs/\(∀ f∈es,okE (Zaa m.d) f)/\∀ i (h:i<ks.length) (h2:i<es.length),(ks[i],es[i])∈m.hs:=by
 have:∀ i,∃ f,∀ hi:i<ks.length,(ks[i],f)∈m.hs/\ef V f=Fs[i]'(by omega):=fun i=>by
  by_cases hi:i<ks.length
  . obtain⟨f,h1,h2⟩:=h.find (hm i hi);exact⟨f,fun _=>⟨h1,h2⟩⟩
  . exact⟨0,fun e=>absurd e hi⟩
 have hs:=fun i=>Classical.choose_spec (this i)
 refine⟨(List.range ks.length).map fun i=>Classical.choose (this i),by simp,?_,?_,?_⟩
 ·refine List.ext_getElem (by simp[hlen]) fun i h1 h2=>?_
  have hi:i<ks.length:=by simpa using h1
  simpa using(hs i hi).2
 . intro f hf;obtain⟨i,hi,rfl⟩:=List.mem_map.1 hf;exact h.ok.handles.ok _ (hs i (List.mem_range.1 hi)).1
 . intro i hi h2;simpa using(hs i hi).1
def Zv7 (n:Nat)(ws0:List Ev)(os:List Nat)(bn:Nat)(Fs:List BF)(s:Nat)(W:World)(m:ManD)(_:Nat->BF):Prop :=
 m.waits=ws0/\m.d.vars=os/\∃ nt cs,s<=nt/\W.cell? ⟨bn,0,none⟩=some (.map (some nt))/\Za5 W nt (Value.int .i64) (ctL cs)/\Zzr n os Fs cs
theorem Zys {wB:World}{bn bl c:Nat}{a:Option Addr}{ks:List Int}{Fs:List BF}(hnl:bn≠bl)(hna:∀ x,a=some x->bn≠x.block)(hlen:Fs.length=ks.length)(hm:∀ i (h:i<ks.length),(ks[i],Fs[i]'(by omega))∈fs)(ws0:List Ev)(os:List Nat)(E:Int->ManD->ManD->Prop) :
 OpLN K n Od room w0 mb fs nx (CsN bn bl a) (BoN wB bn bl a c ks) (fun m=>m.waits=ws0/\m.d.vars=os) 169 #[.pointer (some ⟨bn,0,none⟩),.pointer (some ⟨bl,0,none⟩)] (fun s _=>Zv7 n ws0 os bn Fs s) E:=by
 intro o W m V xb g0 hB hC ho gm hnx;obtain⟨gO,gr⟩:=ho;obtain⟨es,h5,h7,gi,h6⟩:=g0.edges hlen hm;have hk:=g0.ok.store;have gt:∀ k,CsN bn bl a k->o k=none:=fun k e=>(hC k e).2
 obtain⟨v0,gP⟩:=hB.n;have hy:∀ (fn:Fn) (first cap:Array Value) (w:World),(Instr.makeFunc fn first cap).run prog w=.ok (.func fn first cap) w:=fun _ _ _ _=>rfl
 have gz:bn<W.heap.size:=(hC bn (.inl rfl)).1;have gj:bl<W.heap.size:=(hC bl (.inr (.inl rfl))).1;obtain⟨w1,gc⟩:∃ w1,w1=W.alloc (.cells #[.pointer (some ⟨xb,0,none⟩)] 161):=⟨_,rfl⟩;have gL:w1.heap.size=W.heap.size+1:=by rw[gc];simp
 have g10:w1.heap[W.heap.size]?=some (.cells #[.pointer (some ⟨xb,0,none⟩)] 161 (0,0)):=by rw[gc];exact heap_alloc_new _ _
 have gX:Wr (· = bn) W w1:=by rw[gc];exact Wr.of_below (Zaf _ _) _
 obtain⟨nt,gs⟩:∃ nt,nt=w1.heap.size:=⟨_,rfl⟩;obtain⟨w2,g7⟩:∃ w2,w2=w1.alloc (.map #[] 0):=⟨_,rfl⟩;have hf:∀ t,(Instr.makeMap t none).run prog w1=.ok (.map (some nt)) w2:=fun t=>by rw[gs,g7];exact Zc4 w1 t
 have gK:w2.heap.size=W.heap.size+2:=by rw[g7];simp[gL]
 have h3:Za5 w2 nt (Value.int .i64) (ctL []):=by rw[g7,gs];exact Zff w1 _
 have gV:Wr (· = bn) W w2:=by rw[g7];exact gX.alloc _
 have ge:w2.heap[bn]?=some (.cells #[v0] 202 (0,0)):=by
  rw[g7,Go.heap_alloc_old _ _ (by omega),gc,Go.heap_alloc_old _ _ gz];exact gP
 obtain⟨w3,g5⟩:∃ w3,w3=w2.setCell ⟨bn,0,none⟩ (.map (some nt)):=⟨_,rfl⟩;have hp:(store ⟨bn,0,none⟩ (.map (some nt))).run prog w2=.ok () w3:=by
  rw[run_store _ _ _ _ _ rfl];simp[cell1 ge,World.frozen?,ge,g5]
 have gJ:w3.heap.size=W.heap.size+2:=by rw[g5];simp[World.setCell,gK]
 have gv:∀ q,q≠bn->w3.heap[q]?=w2.heap[q]?:=fun q hq=>by rw[g5];exact Zad hq _
 have g3:w3.heap[bn]?=some (.cells #[.map (some nt)] 202 (0,0)):=by rw[g5];exact Zae ge _
 have gU:Wr (· = bn) W w3:=by rw[g5];exact gV.setCell (.inl rfl) _
 have h0:Za5 w3 nt (Value.int .i64) (ctL []):=h3.keepB (gv nt (by omega));obtain⟨mt,gu⟩:∃ mt,mt=w3.heap.size:=⟨_,rfl⟩;obtain⟨w4,g4⟩:∃ w4,w4=w3.alloc (.map #[] 0):=⟨_,rfl⟩;have hb:∀ t,(Instr.makeMap t none).run prog w3=.ok (.map (some mt)) w4:=fun t=>by rw[gu,g4];exact Zc4 w3 t
 have gI:w4.heap.size=W.heap.size+3:=by rw[g4];simp[gJ]
 have gZ:Za5 w4 mt (Value.int .i64) (mtL []):=by rw[g4,gu];exact Zff w3 _
 have gB:Below w3.heap.size w3 w4:=by rw[g4];exact Zaf _ _
 obtain⟨w6,gb⟩:∃ w6,w6=w4.alloc (.cells #[.map (some mt)] 127):=⟨_,rfl⟩;have gk:Below w4.heap.size w4 w6:=by rw[gb];exact Zaf _ _
 have gH:w6.heap.size=W.heap.size+4:=by rw[gb];simp[gI]
 have g6:w6.heap[w4.heap.size]?=some (.cells #[.map (some mt)] 127 (0,0)):=by rw[gb];exact heap_alloc_new _ _
 obtain⟨FV,go⟩:∃ FV:Value,FV=.func (.func 170) #[] #[.pointer (some ⟨w4.heap.size,0,none⟩),.pointer (some ⟨W.heap.size,0,none⟩),.pointer (some ⟨bn,0,none⟩),.pointer (some ⟨w6.heap.size,0,none⟩)]:=⟨_,rfl⟩;obtain⟨w7,ga⟩:∃ w7,w7=w6.alloc (.cells #[.nilFunc] 240):=⟨_,rfl⟩;have gA:Below w6.heap.size w6 w7:=by rw[ga];exact Zaf _ _
 have gG:w7.heap.size=W.heap.size+5:=by rw[ga];simp[gH]
 have gn:w7.heap[w6.heap.size]?=some (.cells #[.nilFunc] 240 (0,0)):=by rw[ga];exact heap_alloc_new _ _
 obtain⟨w8,g9⟩:∃ w8,w8=w7.setCell ⟨w6.heap.size,0,none⟩ FV:=⟨_,rfl⟩;have gQ:(store ⟨w6.heap.size,0,none⟩ FV).run prog w7=.ok () w8:=by
  rw[run_store _ _ _ _ _ (by rw[go];rfl)];simp[cell1 gn,World.frozen?,gn,g9]
 have hn:w8.heap.size=W.heap.size+5:=by rw[g9];simp[World.setCell,gG]
 have gg:Below w6.heap.size w6 w8:=by rw[g9];exact gA.setCell (Nat.le_refl _) _
 have g8:w8.heap[w6.heap.size]?=some (.cells #[FV] 240 (0,0)):=by rw[g9];exact Zae gn _
 have gT:Wr (· = bn) W w4:=by rw[g4];exact gU.alloc _
 have gS:Wr (· = bn) W w6:=by rw[gb];exact gT.alloc _
 have gR:Wr (· = bn) W w7:=by rw[ga];exact gS.alloc _
 have gd:Wr (· = bn) W w8:=by rw[g9];exact gR.setCell (.inr (by show W.heap.size<=w6.heap.size;omega)) _
 have gf:∀ q,q<w3.heap.size->w8.heap[q]?=w3.heap[q]?:=fun q hq=>by
  rw[gg.block q (by omega),gk.block q (by omega),gB.block q hq]
 have e4:w8.heap[w4.heap.size]?=some (.cells #[.map (some mt)] 127 (0,0)):=by
  rw[gg.block _ (by omega)];exact g6
 have em:Za5 w8 mt (Value.int .i64) (mtL []):=gZ.keepB (by rw[gg.block _ (by omega),gk.block _ (by omega)]);have en:Za5 w8 nt (Value.int .i64) (ctL []):=h0.keepB (gf nt (by omega));have ex:w8.heap[W.heap.size]?=some (.cells #[.pointer (some ⟨xb,0,none⟩)] 161 (0,0)):=by
  rw[gf _ (by omega),gv _ (by omega),g7,Go.heap_alloc_old _ _ (by omega)];exact g10
 have eb:w8.heap[bn]?=some (.cells #[.map (some nt)] 202 (0,0)):=by rw[gf _ (by omega)];exact g3
 have gN:xb<W.heap.size:=Zab gm.cell;have gp:xb≠bn:=fun e=>hnx (.inl e)
 have oS:∀ q,W.heap.size<=q->o q=none:=fun q hq=>g0.lt.none hq
 have hs:SnS (K m.d V) ⟨w4.heap.size,W.heap.size,bn,w6.heap.size,mt,nt,xb⟩ mb o m V [] (tally m.d []) w8:=by
  refine⟨g0.is.other g0.lt gd (fun k _ e=>by subst e;exact gt _ (.inl rfl)),g0.lt.mono gd.size,hk,⟨(World.cell?_of_block (w:=W) (a:=⟨xb,0,none⟩) (gd.keep xb gN gp)).trans gm.cell,gm.own⟩,cell1 e4,cell1 ex,cell1 eb,?_,em,en,?_,?_,?_,⟨List.nodup_nil,by simp⟩⟩
  . rw[cell1 g8,go];rfl
  ·rintro q (e|e|e|e|e|e)
   . have e:q=w4.heap.size:=e;exact oS _ (by omega)
   . have e:q=W.heap.size:=e;exact oS _ (by omega)
   . have e:q=bn:=e;exact gt _ (.inl e)
   . have e:q=w6.heap.size:=e;exact oS _ (by omega)
   . have e:q=mt:=e;exact oS _ (by omega)
   . have e:q=nt:=e;exact oS _ (by omega)
  ·refine⟨?_,?_,?_,?_,?_,?_⟩
   . show mt≠w4.heap.size;omega
   . show mt≠W.heap.size;omega
   . show mt≠bn;omega
   . show mt≠w6.heap.size;omega
   . show mt≠xb;omega
   . show mt≠nt;omega
  ·refine⟨?_,?_,?_,?_,?_⟩
   . show nt≠w4.heap.size;omega
   . show nt≠W.heap.size;omega
   . show nt≠bn;omega
   . show nt≠w6.heap.size;omega
   . show nt≠xb;omega
 obtain⟨C,g1⟩:∃ C:SnC,C=⟨w4.heap.size,W.heap.size,bn,w6.heap.size,mt,nt,xb⟩:=⟨_,rfl⟩;have ha:C.caps=#[.pointer (some ⟨w4.heap.size,0,none⟩),.pointer (some ⟨W.heap.size,0,none⟩),.pointer (some ⟨bn,0,none⟩),.pointer (some ⟨w6.heap.size,0,none⟩)]:=by rw[g1];rfl
 have gC:∀ k,C.two k->W.heap.size<=k:=by
  rw[g1];rintro k (e|e)
  . have e:k=mt:=e;omega
  . have e:k=nt:=e;omega
 rw[<- g1] at hs;have hg:=hB.z.len;have clist:w8.cell? ⟨bl,0,none⟩=some (.slice a ks.length c):=(World.cell?_of_block (w:=W) (a:=⟨bl,0,none⟩) (gd.keep bl gj (fun e=>hnl e.symm))).trans hB.l;obtain⟨I,hI⟩:∃ I:Nat->World->Prop,I=fun i wr=>Wr (· = bn) W wr/\wr.heap[bn]?=some (.cells #[.map (some nt)] 202 (0,0))/\SnS (K m.d V) C mb o m V (Zl9 m.d (es.take i)) (tally m.d (Zl9 m.d (es.take i))) wr:=⟨_,rfl⟩
 have gF:Hid (I 0 w8):=by rw[hI];exact Hd ⟨gd,eb,by simpa [Zl9] using hs⟩
 have HX:Hid (∀ i wr,I i wr->wr.cell? ⟨W.heap.size,0,none⟩=some (.pointer (some ⟨xb,0,none⟩))/\wr.cell? ⟨w6.heap.size,0,none⟩=some (.func (.func 170) #[] C.caps)/\(∀ j,j<ks.length->∃ b off,a=some ⟨b,off,none⟩/\wr.cell? ⟨b,off+j,none⟩=some (.int .i64 (at0 ks j)))/\I i wr.drew):=by
  rw[hI];refine Hd fun i wr hh=>?_
  obtain⟨h1,gh,h2⟩:=hh;have hx:=h2.bx;have hd:=h2.bd;rw[g1] at hx;refine⟨hx,?_,fun j hj=>?_,h1.drew,gh,h2.below (Zag wr 1)⟩
  . rw[g1] at hd ⊢;exact hd
  . obtain⟨b,off,e,hc⟩:=hB.z.cells j hj;exact⟨b,off,e,(World.cell?_of_block (w:=W) (a:=⟨b,off+j,none⟩) (h1.keep b (hC b (.inr (.inr ⟨_,e,rfl⟩))).1 (fun q=>hna _ e q.symm))).trans hc⟩
 have g2:Hid (∀ i wr,i<ks.length->I i wr->∃ f,Calls prog 98 #[.pointer (some ⟨xb,0,none⟩),.int .i64 (at0 ks i)] wr (fun x w'=>x=.returned (.int .i64 (f:Nat))/\wr=w') /\
  Calls prog 170 (#[.int .i64 (f:Nat)]++C.caps) wr fun x w'=>x=.returned (.tuple #[])/\I (i+1) w'):=by
  rw[hI];refine Hd fun i wr hi hh=>?_
  obtain⟨h1,gh,h2⟩:=hh;have gw:i<es.length:=by omega
  have gM:=h2.x;rw[g1] at gM;refine⟨es[i],by rw[Zbw hi];exact Zel h2.is gM g0.ok.handles.nodup (h6 i hi gw),?_⟩;refine(Ztn m.d.vars.length _ _ wr h2 (gi _ (List.getElem_mem gw)) (by omega)).mono ?_;rintro x w' ⟨rfl,r1,r2⟩;refine⟨rfl,h1.trans r1 (fun _ _ e=>e) (fun k hk e=>by have:=gC k e;omega),(r1.keep bn (by have:=h1.size;omega) (fun e=>by have:=gC bn e;omega)).trans gh,?_⟩;rw[Zvp es gw];exact r2
 obtain⟨P,hP⟩:∃ P:Ending->World->Prop,P=fun e w'=>∃ (o':Own) (m':ManD) (V':Nat->BF),Zj0 (CsN bn bl a) K o W mb m V o' w' m' V'/\BoN wB bn bl a c ks w' /\
  ((e=.returned (.tuple #[])/\Zv7 n ws0 os bn Fs W.heap.size w' m' V') \/
   (∃ er:Int,e=Zde er false ev0/\er≠0/\m'.waits=m.waits/\(m'.waits=ws0/\m'.d.vars=os)/\E er m m') \/
   (∃ ev,e=Zde 0 true ev/\m.waits=ev::m'.waits/\StE K n Od room w0 mb fs nx (fun m=>m.waits=ws0/\m.d.vars=os) m'/\HapG K n Od room w0 mb fs nx ev)):=⟨_,rfl⟩
 have gl:Hid (∀ wr,I ks.length wr->P (.returned (.tuple #[])) wr):=by
  rw[hI,hP];refine Hd fun wr hh=>?_
  obtain⟨h1,gh,h2⟩:=hh;rw[<- h5,List.take_length] at h2;have h8:=h2.bn;have gY:=h2.cnt;rw[g1] at h8 gY;refine⟨o,m,V,⟨h2.is,h2.lt,ChgX.of_wr h1 o (fun k _ e=>.inl e),hk,Ext.refl _ _,rfl,rfl⟩,⟨?_,?_,⟨hg,fun i hi=>?_⟩,fun x hx=>?_⟩,.inl ⟨rfl,gO,gr,nt,_,by omega,h8,gY,?_⟩⟩
  . exact⟨_,gh⟩
  . exact(World.cell?_of_block (w:=W) (a:=⟨bl,0,none⟩) (h1.keep bl gj (fun e=>hnl e.symm))).trans hB.l
  . obtain⟨b,off,e,hc⟩:=hB.z.cells i hi;exact⟨b,off,e,(World.cell?_of_block (w:=W) (a:=⟨b,off+i,none⟩) (h1.keep b (hC b (.inr (.inr ⟨_,e,rfl⟩))).1 (fun q=>hna _ e q.symm))).trans hc⟩
  . exact(h1.keep _ (hC _ (.inr (.inr ⟨x,hx,rfl⟩))).1 (fun q=>hna x hx q.symm)).trans (hB.s x hx)
  . have:=Ya6 hk es gi (fun e he=>Zg3 g0.is he);rw[g0.vars,h7,gr] at this;exact this
 have HW1:=Hd gc.symm;have ht:=Hd g5.symm;have hA:=Hd g4.symm;have c2:=cell1 ge;have f2:w2.frozen? ⟨bn,0,none⟩=false:=by simp[World.frozen?,ge]
 have hr:=Hd gb.symm;rw[go,ga] at gQ;rw[<- hP];rw[ha] at HX g2;clear hP hI hs g0 hB hC gm hnx h7 gi h6 hk gt gP gz gj gc g7 g5 g4 gb ga g9 gL gK gJ gI gH gG hn g10 gX h3 gV gT gS gR ge gn gA gv g3 gU h0 gZ gB gk g6 go gg g8 gd gf e4 em en ex eb gN gp oS g1 ha gC gs gu hlen hm h5 gO gr
 go_enter func169,ntmps169
 go_upto_region 1 with fail;rw[HW1.out];go_upto_region 2 with fail;rw[ht.out];clear c2 f2 hf hp;go_upto_region 3 with fail;rw[hr.out];clear hb;go_upto_region 5 with fail;clear gQ;go_wp2_with fail
 go_loopw [7,13] (fun _ s13 wr=>∃ i:Nat,i<=ks.length/\s13=.int .i64 i/\Hid (I i wr)) (fun _ s13 _=>ks.length-(intOf s13).toNat)
 case atStart=>exact⟨0,Nat.zero_le _,rfl,gF⟩
 case round =>
  obtain⟨i,hi,rfl,HI⟩:=hrel
  by_cases h4:i<ks.length
  ·have hz:(i:Int)<(ks.length:Int):=by omega
   obtain⟨x1,x2,x3,x4⟩:=HX.out i _ HI.out;obtain⟨b,off,rfl,ck⟩:=x3 i h4;have HD:=Hd (HX.out i _ x4);obtain⟨f,hE,hS⟩:=g2.out i _ h4 x4;have HE:=Hd hE;have HS:=Hd hS;have gD:=HX;clear hE hS x1 x2 x3 x4 HX g2 gl HI gF clist;go_upto_region 8 with fail;obtain⟨wz,gq⟩:∃ wz,wz=wr.drew:=⟨_,rfl⟩;rw[<- gq] at HD HE HS;have gE:=Hd gq;clear gq;have gy:=HD.out.1;have gx:=HD.out.2.1;refine Zfw [0,1,2,3,4] (fun W'=>W'.cell? ⟨W.heap.size,0,none⟩=some (.pointer (some ⟨xb,0,none⟩))/\W'.cell? ⟨w6.heap.size,0,none⟩=some (.func (.func 170) #[] #[.pointer (some ⟨w4.heap.size,0,none⟩),.pointer (some ⟨W.heap.size,0,none⟩),.pointer (some ⟨bn,0,none⟩),.pointer (some ⟨w6.heap.size,0,none⟩)])) (fun ch w'=>False) (fun c a w hd h=>h.elim) (by kernel_rfl) (by rw[<- gE.out];exact⟨gy,gx⟩) ?_;rw[<- gE.out]
   iterate 3
    refine Zea rfl rfl (by kernel_rfl) ?_;apply Exists.intro;refine⟨fun w' hw=>?_,?_⟩
    . obtain⟨q1,q2⟩:=hw;go_simp;rfl
    simp only[Zai]
   refine Zbr (R1:=fun u w'=>u=.int .i64 (f:Nat)/\wz=w') rfl (by kernel_rfl) rfl rfl (by go_simp) (HE.out.mono fun x w' h=>⟨_,h.1,rfl,h.2⟩) (by rintro u w' ⟨_,rfl⟩;exact⟨gy,gx⟩) ?_;rintro u w'-⟨rfl,rfl⟩;simp only[Zai];refine Zbr (R1:=fun u w'=>u=.tuple #[]/\I (i+1) w') rfl (by kernel_rfl) rfl rfl (by go_simp) (HS.out.mono fun x w' h=>⟨_,h.1,rfl,h.2⟩) (by rintro u w' ⟨_,hI⟩;exact⟨(gD.out (i+1) w' hI).1,(gD.out (i+1) w' hI).2.1⟩) ?_;rintro u w9-⟨rfl,h9⟩;have hu:=Hd h9;clear h9 gD HS HE HD gy gx gE;simp only[Zai];refine Zld (by kernel_rfl) ?_;go_wp2_with fail;go_roundw
   case rel=>exact⟨i+1,by omega,by rw[show ((i+1:Nat):Int)=(i:Int)+1 by omega],hu⟩
   case measure=>simp[intOf];omega
  ·obtain rfl:i=ks.length:=by omega
   have hv:¬ (ks.length:Int)<(ks.length:Int):=by omega
   have HF:=Hd (gl.out _ HI.out);clear HX g2 gl HI gF;go_wp2_with fail;refine bodyPost_end (results_none rfl _ _ _) rfl ?_;exact HF.out
end
open Go.RowKit
structure ArgI (w0 w:World)(o:Own)(a:Option Addr)(ks:List Int):Prop where
 z:Zau w a ks
 own:∀ x,a=some x->x.block<w.heap.size/\w0.heap.size<=x.block/\o x.block=none
theorem Zjv {w:World}{b:Nat}{v:Value}{t:TypeId}{fr:Nat×Nat}(h:w.heap[b]?=some (.cells #[v] t fr)):w.setCell ⟨b,0,none⟩ v=w:=by
 have:w.heap.modify b (fun|.cells c elem frozen=>.cells (c.setIfInBounds 0 v) elem frozen|o=>o)=w.heap:=by
  apply Array.ext_getElem?;intro i;rw[Array.getElem?_modify];split
  ·rename_i e
   subst e;rw[h];rfl
  . rfl
 show ({ w with heap:=w.heap.modify b (fun|.cells c elem frozen=>.cells (c.setIfInBounds 0 v) elem frozen|o=>o) }:World)=w
 rw[this]
section
variable {K:Law}{n:Nat}{Od:List Nat->Prop}{room:Nat}{w0 w:World}{mb:Nat}{fs:List (Int×BF)}{nx:Int}{o:Own}{m:ManD}{V:Nat->BF}
def Ycm (K:Law)(n:Nat)(Od:List Nat->Prop)(room:Nat)(w0:World)(mb:Nat)(fs:List (Int×BF))(nx:Int)(m:ManD)(o:Own)(w:World)(Fs:List BF)(x:Ending)(w':World):Prop :=
 ∃ nt cs,x=.returned (.tuple #[.map (some nt),.int .i64 0])/\Za5 w' nt (Value.int .i64) (ctL cs)/\Zzr n m.d.vars Fs cs/\∃ o' m' V',ChgX NoB o o' w w'/\m'.waits=m.waits/\m'.d.vars=m.d.vars/\SatE K n Od room w0 mb fs nx w' o' m' V'
theorem Zvq {ws0:List Ev}{os:List Nat}{bn s:Nat}{Fs:List BF}{W W':World}{m:ManD}{V:Nat->BF}(hb:bn<s)(hz:s+3<=W.heap.size)(h:Zv7 n ws0 os bn Fs (s+3) W m V)(a:Ali s W W'):Zv7 n ws0 os bn Fs 0 W' m V:=by
 obtain⟨h1,h2,nt,cs,h3,h4,h5,h6⟩:=h;exact⟨h1,h2,nt,cs,Nat.zero_le _,(World.cell?_of_block (w:=W) (a:=⟨bn,0,none⟩) (a.keep bn (by omega) (by omega))).trans h4,h5.keepB (a.keep nt h5.lt (by omega)),h6⟩
theorem Ya3 (h:SatE K n Od room w0 mb fs nx w o m V){c:Nat}{a:Option Addr}{ks:List Int}{Fs:List BF}(hl:ArgI w0 w o a ks)(hlen:Fs.length=ks.length)(hm:∀ i (h:i<ks.length),(ks[i],Fs[i]'(by omega))∈fs) :
 Calls prog 135 #[.pointer (some ⟨mb,0,none⟩),.slice a ks.length c] w (Ycm K n Od room w0 mb fs nx m o w Fs):=by
 have gh:∀ (fn:Fn) (first cap:Array Value) (w:World),(Instr.makeFunc fn first cap).run prog w=.ok (.func fn first cap) w:=fun _ _ _ _=>rfl
 have hw0:=h.chg.size;obtain⟨w2,g3⟩:∃ w2,w2=(w.alloc (.cells #[.slice a ks.length c] 22)).alloc (.cells #[.map none] 202):=⟨_,rfl⟩;have g5:Below w.heap.size w w2:=by rw[g3];exact(Zaf _ _).alloc (by simp) _
 have gb:w2.heap.size=w.heap.size+2:=by rw[g3];simp
 have g0:w2.heap[w.heap.size]?=some (.cells #[.slice a ks.length c] 22 (0,0)):=by
  rw[g3];exact(Go.heap_alloc_old _ _ (by simp)).trans (heap_alloc_new _ _)
 have g1:w2.heap[w.heap.size+1]?=some (.cells #[.map none] 202 (0,0)):=by
  have:=heap_alloc_new (w.alloc (.cells #[.slice a ks.length c] 22)) (.cells #[.map none] 202);rw[World.size_alloc] at this;rw[g3];exact this
 obtain⟨s,hs⟩:∃ s,s=w.heap.size+1:=⟨_,rfl⟩;rw[<- hs] at g1;have g6:∀ x,a=some x->s≠x.block:=fun x hx e=>by have:=(hl.own x hx).1;omega
 have g4:=h.below g5;have hz:=hl.z.below g5;have g8:BoN w2 s w.heap.size a c ks w2:=⟨⟨_,g1⟩,cell1 g0,hz,fun _ _=>rfl⟩;have hC:∀ k,CsN s w.heap.size a k->k<w2.heap.size/\o k=none:=by
  rintro k (rfl|rfl|⟨x,hx,rfl⟩)
  . exact⟨by omega,h.lt.none (by omega)⟩
  . exact⟨by omega,h.lt.none (by omega)⟩
  . have:=hl.own x hx;exact⟨by omega,this.2.2⟩
 have ga:∀ k,CsN s w.heap.size a k->w0.heap.size<=k:=by
  rintro k (rfl|rfl|⟨x,hx,rfl⟩)
  . omega
  . omega
  . exact(hl.own x hx).2.1
 have hL:=Zp6 (B:=BoN w2 s w.heap.size a c ks) (QP:=fun _=>Zv7 n m.waits m.d.vars s Fs 0) (St:=fun m'=>m'.waits=m.waits/\m'.d.vars=m.d.vars) (fun _ _ hb hk=>hb.keep hk) (fun s' _ W W' m' V' hc hz _ hq a=>Zvq (hc s (.inl rfl)) hz hq a) (fun m' d hm hr=>⟨hm.1,by show d.vars=_;rw[hr.vars];exact hm.2⟩) ga Zpn (Zys (E:=fun _ _ _=>False) (by omega) g6 hlen hm m.waits m.d.vars) g4 g8 hC ⟨rfl,rfl⟩
 have HL:Hid (Calls prog 96 #[.pointer (some ⟨mb,0,none⟩),.func (.func 169) #[] #[.pointer (some ⟨s,0,none⟩),.pointer (some ⟨w.heap.size,0,none⟩)]] w2 fun x w'=>x=.returned (.int .i64 0)/\∃ nt,w'.cell? ⟨s,0,none⟩=some (.map (some nt))/\(∃ v,w'.heap[s]?=some (.cells #[v] 202 (0,0)))/\Ycm K n Od room w0 mb fs nx m o w Fs (.returned (.tuple #[.map (some nt),.int .i64 0])) w'):=Hd (hL.mono (by
  rintro x w' ⟨er,rfl,o',m',V',hs',g9,hc,⟨rfl,q1,q2,nt,cs,q3,q4,q5,q6⟩|⟨_,m0,e,_⟩⟩
  ·refine⟨rfl,nt,q4,g9.n,nt,cs,rfl,q5,q6,o',m',V',?_,q1,q2,hs'⟩;have g2:ChgX (CsN s w.heap.size a) o o' w w':=(ChgX.of_below g5 o (CsN s w.heap.size a)).trans hc (fun _ _ e=>e);refine⟨g2.os,g2.tape,g2.output,g2.size,fun k hk ho _=>?_,g2.ext,g2.new⟩
   by_cases e:CsN s w.heap.size a k
   ·rcases e with e|e|⟨x,hx,e⟩
    . omega
    . omega
    . subst e;exact(g9.s x hx).trans (g5.block _ hk)
   . exact g2.block k hk ho e
  . exact e.elim))
 have ge:Hid (∀ i,i<ks.length->Calls prog 29 #[.pointer (some ⟨mb,0,none⟩),.int .i64 (at0 ks i)] w2 fun x w'=>x=.returned (.bool true)/\w2=w'):=Hd fun i hi=>by
  rw[Zbw hi];exact(Zp8 g4 (hm i hi))
 have HZ:Hid (∀ i,i<ks.length->∃ b off,a=some ⟨b,off,none⟩/\w2.cell? ⟨b,off+i,none⟩=some (.int .i64 (at0 ks i))):=Hd fun i hi=>by
  obtain⟨b,off,e,hc⟩:=hz.cells i hi;exact⟨b,off,e,hc⟩
 have gc:=Hd g3.symm;have HS:=Hd hs;have c0:=cell1 g0;have gg:=hz.len;obtain⟨P,hP⟩:∃ P,P=Ycm K n Od room w0 mb fs nx m o w Fs:=⟨_,rfl⟩;rw[<- hP] at HL ⊢;have HP:Hid (∀ x w',P x w'->P x w'):=Hd fun _ _ e=>e
 clear hP h hw0 g3 g5 gb g0 g1 hs g6 g4 hz g8 hC ga hL hl hlen hm
 go_enter func135,ntmps135
 go_upto_region 1 with fail;rw[gc.out];rw[<- HS.out];go_wp2_with fail
 go_loopw [7,12] (fun _ s12 wr=>∃ i:Nat,i<=ks.length/\s12=.int .i64 i/\wr=w2) (fun _ s12 _=>ks.length-(intOf s12).toNat)
 case atStart=>exact⟨0,Nat.zero_le _,by trivial,by trivial⟩
 case round =>
  obtain⟨i,hi,rfl,rfl⟩:=hrel
  by_cases g7:i<ks.length
  ·have gi:(i:Int)<(ks.length:Int):=by omega
   obtain⟨b,off,rfl,ck⟩:=HZ.out i g7;have HI:=Hd (ge.out i g7);clear HL;go_wp2_with fail;refine HI.out.mono ?_;rintro x w' ⟨rfl,rfl⟩;go_wp2_with fail;go_roundw
   case rel=>exact⟨i+1,by omega,by rw[show ((i+1:Nat):Int)=(i:Int)+1 by omega],trivial⟩
   case measure=>simp[intOf];omega
  ·obtain rfl:i=ks.length:=by omega
   have gf:¬ (ks.length:Int)<(ks.length:Int):=by omega
   go_wp2_with fail;refine HL.out.mono ?_;rintro x w' ⟨rfl,nt,q1,⟨v,q2⟩,hf⟩;have HF:=Hd hf;obtain rfl:v=.map (some nt):=Option.some.inj ((cell1 q2).symm.trans q1);have gd:=Hd (Zjv q2);have f1:w'.frozen? ⟨s,0,none⟩=false:=by simp[World.frozen?,q2]
   clear hf HL;go_wp2_with fail;rw[gd.out];have hu:=underlying202;refine bodyPost_ret (v:=.tuple #[.map (some nt),.int .i64 0]) ((results_cell_tmp rfl _ _ _).trans ?_) rfl HF.out
   show ((asAddr (.pointer (some ⟨s,0,none⟩))).run prog w').andThen (fun a w₁=>((loadVar 202 a).run prog w₁).andThen fun v w₂=>.ok (Value.tuple #[v,.int .i64 0]) w₂)=_
   go_simp
end
open Go.RowKit
open Go.ChangeMaps (setBlock)
section
variable {K:Law}{n:Nat}{Od:List Nat->Prop}{room:Nat}{w0 w:World}{mb:Nat}{fs:List (Int×BF)}{nx:Int}{o:Own}{m:ManD}{V:Nat->BF}
def AskV (K:Law)(n:Nat)(Od:List Nat->Prop)(room:Nat)(w0:World)(mb:Nat)(fs:List (Int×BF))(nx:Int)(m:ManD)(o:Own)(w w':World):Prop :=
 ∃ o' m' V',ChgX NoB o o' w w'/\m'.waits=m.waits/\m'.d.vars=m.d.vars/\SatE K n Od room w0 mb fs nx w' o' m' V'
theorem AskV.below {w1 w':World}(h:AskV K n Od room w0 mb fs nx m o w w1)(hb:Below w1.heap.size w1 w'):AskV K n Od room w0 mb fs nx m o w w':=by
 obtain⟨o',m',V',h1,h2,h3,h4⟩:=h;exact⟨o',m',V',h1.trans (ChgX.of_below hb o' NoB) (fun _ _ e=>e),h2,h3,h4.below hb⟩
end
open Go.RowKit
theorem Zrt (args:Array Value)(w:World):(callFunc 126 args).run prog w=.ok (.enter 126 args) w:=enters_of func126 (by kernel_rfl) rfl args w
theorem NatV.keepC {w w':World}{v:Value}{x:Nat}(h:NatV w v x)(hk:∀ b j d,w.cell? ⟨b,j,none⟩=some (.int .u32 d)->w'.heap[b]?=w.heap[b]?):NatV w' v x:=by
 obtain⟨a,c,h1,h2,h3,h4⟩:=h;refine⟨a,c,h1,h2,h3,⟨h4.len,h4.ok,fun k g0=>?_⟩⟩;obtain⟨b,off,e,hc⟩:=h4.cells k g0;exact⟨b,off,e,(World.cell?_of_block (w:=w) (a:=⟨b,off+k,none⟩) (hk b _ _ hc)).trans hc⟩
theorem NatV.keepO {w w':World}{v:Value}{x:Nat}(h:NatV w v x)(hk:∀ q,v.ownBlock=some q->w'.heap[q]?=w.heap[q]?):NatV w' v x:=by
 obtain⟨a,c,h1,h2,h3,h4⟩:=h;refine⟨a,c,h1,h2,h3,⟨h4.len,h4.ok,fun k g0=>?_⟩⟩;obtain⟨b,off,e,hc⟩:=h4.cells k g0;exact⟨b,off,e,(World.cell?_of_block (w:=w) (a:=⟨b,off+k,none⟩) (hk b (by rw[h1,e];rfl))).trans hc⟩
theorem Zht.keepO {W W':World}{fv:Value}{fx:Nat->Option Bool}(h:Zht W fv fx)(hk:∀ q,fv=.map (some q)->W'.heap[q]?=W.heap[q]?):Zht W' fv fx:=by
 rcases h with h|⟨ft,l,h1,h2,h3⟩
 . exact .inl h
 . exact .inr ⟨ft,l,h1,h2.keepB (hk ft h1),h3⟩
structure BoT (n:Nat)(wB:World)(bA bX bF bN:Nat)(va fv:Value)(fx:Nat->Option Bool)(k:Int)(W:World):Prop where
 n_:∃ (a:Option Addr) (l c:Nat),W.heap[bN]?=some (.cells #[.slice a l c] 40 (0,0))
 a_:W.cell? ⟨bA,0,none⟩=some va
 an:NatV W va (2^n)
 x_:W.cell? ⟨bX,0,none⟩=some fv
 fx_:Zht W fv fx
 f_:W.cell? ⟨bF,0,none⟩=some (.int .i64 k)
 s_:∀ q,fv=.map (some q)->W.heap[q]?=wB.heap[q]?
def CsT (bA bX bF bN:Nat)(va fv:Value)(q:Nat):Prop:=q=bA\/q=bX\/q=bF\/q=bN\/va.ownBlock=some q\/fv=.map (some q)
theorem BoT.keep {n:Nat}{wB:World}{bA bX bF bN:Nat}{va fv:Value}{fx:Nat->Option Bool}{k:Int}{W W':World}(h:BoT n wB bA bX bF bN va fv fx k W)(hk:∀ q,CsT bA bX bF bN va fv q->W'.heap[q]?=W.heap[q]?):BoT n wB bA bX bF bN va fv fx k W' :=
 ⟨by rw[hk _ (.inr (.inr (.inr (.inl rfl))))];exact h.n_,(World.cell?_of_block (w:=W) (a:=⟨bA,0,none⟩) (hk _ (.inl rfl))).trans h.a_,h.an.keepO fun q e=>hk q (.inr (.inr (.inr (.inr (.inl e))))),
  (World.cell?_of_block (w:=W) (a:=⟨bX,0,none⟩) (hk _ (.inr (.inl rfl)))).trans h.x_,h.fx_.keepO fun q e=>hk q (.inr (.inr (.inr (.inr (.inr e))))),
  (World.cell?_of_block (w:=W) (a:=⟨bF,0,none⟩) (hk _ (.inr (.inr (.inl rfl))))).trans h.f_,fun q e=>(hk q (.inr (.inr (.inr (.inr (.inr e)))))).trans (h.s_ q e)⟩
section
variable {K:Law}{n:Nat}{Od:List Nat->Prop}{room:Nat}{w0 w:World}{mb:Nat}{fs:List (Int×BF)}{nx:Int}{o:Own}{m:ManD}{V:Nat->BF}
def AskN (K:Law)(n:Nat)(Od:List Nat->Prop)(room:Nat)(w0:World)(mb:Nat)(fs:List (Int×BF))(nx:Int)(m:ManD)(o:Own)(w w':World)(v:Value):Prop :=
 ∃ o' m' V',ChgX NoB o o' w w'/\m'.waits=m.waits/\m'.d.vars=m.d.vars/\SatE K n Od room w0 mb fs nx w' o' m' V'/\∀ q,v.ownBlock=some q->o' q=none
theorem AskN.ask {w':World}{v:Value}(h:AskN K n Od room w0 mb fs nx m o w w' v):AskV K n Od room w0 mb fs nx m o w w':=by
 obtain⟨o',m',V',h1,h2,h3,h4,_⟩:=h;exact⟨o',m',V',h1,h2,h3,h4⟩
def TotQ (ws0:List Ev)(os:List Nat)(bN N:Nat)(_:Nat)(o:Own)(W:World)(m:ManD)(_:Nat->BF):Prop :=
 m.waits=ws0/\m.d.vars=os/\∃ v,W.cell? ⟨bN,0,none⟩=some v/\NatV W v N/\∀ q,v.ownBlock=some q->o q=none
theorem Ybg {wB:World}{bA bX bF bN:Nat}{va fv:Value}{fx:Nat->Option Bool}{k:Int}{G:BF}(hne:∀ q,(q=bA\/q=bX\/q=bF\/va.ownBlock=some q\/fv=.map (some q))->q≠bN)(hm:(k,G)∈fs)(ws0:List Ev)(os:List Nat)(E:Int->ManD->ManD->Prop) :
 OpLN K n Od room w0 mb fs nx (CsT bA bX bF bN va fv) (BoT n wB bA bX bF bN va fv fx k) (fun m=>m.waits=ws0/\m.d.vars=os) 126 #[.pointer (some ⟨bA,0,none⟩),.pointer (some ⟨bX,0,none⟩),.pointer (some ⟨bF,0,none⟩),.pointer (some ⟨bN,0,none⟩)] (TotQ ws0 os bN (totN n fx G)) E:=by
 intro o W m V xb g4 hB hC gd gi hnx;obtain⟨gq,gu⟩:=gd;obtain⟨f,hf,gw⟩:=g4.find hm;have hk:=g4.ok.store;have gn:=g4.ok.handles.ok _ hf;have gJ:∀ (fn:Fn) (first cap:Array Value) (w:World),(Instr.makeFunc fn first cap).run prog w=.ok (.func fn first cap) w:=fun _ _ _ _=>rfl
 have gI:=fun t w=>Zc4 (P:=prog) w t
 have lN:=(hC bN (.inr (.inr (.inr (.inl rfl))))).1;have lA:=(hC bA (.inl rfl)).1;have lX:=(hC bX (.inr (.inl rfl))).1;have lF:=(hC bF (.inr (.inr (.inl rfl)))).1;have gB:xb<W.heap.size:=Zab gi.cell;have gC:xb≠bN:=fun e=>hnx (.inr (.inr (.inr (.inl e))))
 obtain⟨w4,g5⟩:∃ w4,w4=(((W.alloc (.cells #[.pointer (some ⟨xb,0,none⟩)] 161)).alloc (.map #[] 0)).alloc (.cells #[.map (some (W.heap.size+1))] 195)).alloc (.cells #[.nilFunc] 196):=⟨_,rfl⟩;have gG:Hid (_=w4):=Hd g5.symm;have gx:Below W.heap.size W w4:=by rw[g5];exact(((Zaf _ _).alloc (by simp) _).alloc (by simp;omega) _).alloc (by simp;omega) _
 have gA:w4.heap.size=W.heap.size+1+1+1+1:=by rw[g5];simp
 have g0:w4.heap[W.heap.size]?=some (.cells #[.pointer (some ⟨xb,0,none⟩)] 161 (0,0)):=by
  rw[g5];exact(Go.heap_alloc_old _ _ (by simp;omega)).trans ((Go.heap_alloc_old _ _ (by simp;omega)).trans ((Go.heap_alloc_old _ _ (by simp)).trans (heap_alloc_new _ _)))
 have g1:Za5 w4 (W.heap.size+1) (Value.int .i64) []:=by
  have h1:=Zff (W.alloc (.cells #[.pointer (some ⟨xb,0,none⟩)] 161)) (Value.int .i64);rw[World.size_alloc] at h1;rw[g5];exact(h1.below (Zaf _ _)).below (Zaf _ _)
 have g2:w4.heap[W.heap.size+1+1]?=some (.cells #[.map (some (W.heap.size+1))] 195 (0,0)):=by
  have:=heap_alloc_new ((W.alloc (.cells #[.pointer (some ⟨xb,0,none⟩)] 161)).alloc (.map #[] 0)) (.cells #[.map (some (W.heap.size+1))] 195);rw[World.size_alloc,World.size_alloc] at this;rw[g5];exact(Go.heap_alloc_old _ _ (by simp)).trans this
 have g3:w4.heap[W.heap.size+1+1+1]?=some (.cells #[.nilFunc] 196 (0,0)):=by
  have:=heap_alloc_new (((W.alloc (.cells #[.pointer (some ⟨xb,0,none⟩)] 161)).alloc (.map #[] 0)).alloc (.cells #[.map (some (W.heap.size+1))] 195)) (.cells #[.nilFunc] 196);rw[World.size_alloc,World.size_alloc,World.size_alloc] at this;rw[g5];exact this
 have c6:=cell1 g3;have f6:w4.frozen? ⟨W.heap.size+1+1+1,0,none⟩=false:=by simp[World.frozen?,g3]
 obtain⟨w5,g7⟩:∃ w5,w5=w4.setCell ⟨W.heap.size+1+1+1,0,none⟩ (.func (.func 127) #[] #[.pointer (some ⟨bA,0,none⟩),.pointer (some ⟨W.heap.size+1+1+1,0,none⟩),.pointer (some ⟨W.heap.size+1+1,0,none⟩),.pointer (some ⟨W.heap.size,0,none⟩),.pointer (some ⟨bX,0,none⟩)]):=⟨_,rfl⟩;have gh:∀ q:Nat,q≠W.heap.size+1+1+1->w5.heap[q]?=w4.heap[q]?:=fun q hq=>by rw[g7];exact Zad hq _
 have e6:w5.heap[W.heap.size+1+1+1]?=some (.cells #[.func (.func 127) #[] #[.pointer (some ⟨bA,0,none⟩),.pointer (some ⟨W.heap.size+1+1+1,0,none⟩),.pointer (some ⟨W.heap.size+1+1,0,none⟩),.pointer (some ⟨W.heap.size,0,none⟩),.pointer (some ⟨bX,0,none⟩)]] 196 (0,0)):=by rw[g7];exact Zae g3 _
 have go:Below W.heap.size W w5:=by rw[g7];exact gx.setCell (p:=⟨W.heap.size+1+1+1,0,none⟩) (by show W.heap.size<=W.heap.size+1+1+1;omega) _
 have gH:(store ⟨W.heap.size+1+1+1,0,none⟩ (.func (.func 127) #[] #[.pointer (some ⟨bA,0,none⟩),.pointer (some ⟨W.heap.size+1+1+1,0,none⟩),.pointer (some ⟨W.heap.size+1+1,0,none⟩),.pointer (some ⟨W.heap.size,0,none⟩),.pointer (some ⟨bX,0,none⟩)])).run prog w4=.ok () w5:=by
  rw[run_store _ _ _ _ _ rfl];simp[c6,f6,g7]
 obtain⟨wd,gb⟩:∃ wd,wd=w5.drew:=⟨_,rfl⟩;have gy:=Hd gb;have g6:Below W.heap.size W wd:=by rw[gb];exact go.trans ((Zag w5 1).mono go.size)
 have ga:∀ q:Nat,wd.heap[q]?=w5.heap[q]?:=fun q=>by rw[gb];rfl
 have k6:wd.cell? ⟨W.heap.size+1+1+1,0,none⟩=some (.func (.func 127) #[] #[.pointer (some ⟨bA,0,none⟩),.pointer (some ⟨W.heap.size+1+1+1,0,none⟩),.pointer (some ⟨W.heap.size+1+1,0,none⟩),.pointer (some ⟨W.heap.size,0,none⟩),.pointer (some ⟨bX,0,none⟩)]):=cell1 ((ga _).trans e6);have k3:wd.cell? ⟨W.heap.size,0,none⟩=some (.pointer (some ⟨xb,0,none⟩)):=cell1 ((ga _).trans ((gh _ (by omega)).trans g0));have k5:wd.cell? ⟨W.heap.size+1+1,0,none⟩=some (.map (some (W.heap.size+1))):=cell1 ((ga _).trans ((gh _ (by omega)).trans g2));have km:Za5 wd (W.heap.size+1) (Value.int .i64) []:=g1.keepB ((ga _).trans (gh _ (by omega)));have kc:∀ {b:Nat} {v:Value},W.cell? ⟨b,0,none⟩=some v->wd.cell? ⟨b,0,none⟩=some v:=fun {b v} h=>(g6.cell (p:=⟨b,0,none⟩) (Zab h)).trans h
 have kF:=kc hB.f_;have gl:Zfn o wd xb mb:=⟨kc gi.cell,gi.own⟩;have ge:=g4.below g6;have g9:m.d.vars.length=n:=g4.vars;have hs:TtS (K m.d V) ⟨bA,W.heap.size+1+1+1,W.heap.size+1+1,W.heap.size,bX,W.heap.size+1,xb⟩ mb o m V fv fx wd:=by
  refine⟨ge.is,ge.lt,hk,hk.small,gl,⟨va,kc hB.a_,(by rw[g9];exact hB.an.below g6),fun q e=>(hC q (.inr (.inr (.inr (.inr (.inl e)))))).2⟩,k6,k5,k3,kc hB.x_,hB.fx_.below g6,fun e=>?_,⟨[],km,fun p hp=>by simp at hp⟩,g4.lt.none (by show W.heap.size<=W.heap.size+1;omega),?_⟩
  . have:=(hC (W.heap.size+1) (.inr (.inr (.inr (.inr (.inr e)))))).1;omega
  ·refine⟨?_,?_,?_,?_,?_,?_⟩
   . show W.heap.size+1≠bA;omega
   . show W.heap.size+1≠W.heap.size+1+1+1;omega
   . show W.heap.size+1≠W.heap.size+1+1;omega
   . show W.heap.size+1≠W.heap.size;omega
   . show W.heap.size+1≠bX;omega
   . show W.heap.size+1≠xb;omega
 have gj:=Zze m.d.vars.length f wd hs gn (by omega);have gz:=Hd (Zel ge.is gl g4.ok.handles.nodup hf);obtain⟨P,hP⟩:∃ P:Ending->World->Prop,P=fun e w'=>∃ (o':Own) (m':ManD) (V':Nat->BF),Zj0 (CsT bA bX bF bN va fv) K o W mb m V o' w' m' V'/\BoT n wB bA bX bF bN va fv fx k w' /\
  ((e=.returned (.tuple #[])/\TotQ ws0 os bN (totN n fx G) W.heap.size o' w' m' V') \/
   (∃ er:Int,e=Zde er false ev0/\er≠0/\m'.waits=m.waits/\(m'.waits=ws0/\m'.d.vars=os)/\E er m m') \/
   (∃ ev,e=Zde 0 true ev/\m.waits=ev::m'.waits/\StE K n Od room w0 mb fs nx (fun m=>m.waits=ws0/\m.d.vars=os) m'/\HapG K n Od room w0 mb fs nx ev)):=⟨_,rfl⟩
 have gp:Hid (∀ w8 v,Wr (· = W.heap.size+1) wd w8->TtS (K m.d V) ⟨bA,W.heap.size+1+1+1,W.heap.size+1+1,W.heap.size,bX,W.heap.size+1,xb⟩ mb o m V fv fx w8->NatV w8 v (totN m.d.vars.length fx (ef V f))->(∀ q,v.ownBlock=some q->o q=none) ->
  (∃ w9,(∃ a l c,v=.slice a l c)/\((∃ y,w8.cell? ⟨bN,0,none⟩=some y)/\w8.frozen? ⟨bN,0,none⟩=false/\w8.setCell ⟨bN,0,none⟩ v=w9)/\P (.returned (.tuple #[])) w9 /\
   w9.cell? ⟨W.heap.size+1+1+1,0,none⟩=w8.cell? ⟨W.heap.size+1+1+1,0,none⟩/\w9.cell? ⟨W.heap.size,0,none⟩=w8.cell? ⟨W.heap.size,0,none⟩/\w9.cell? ⟨bF,0,none⟩=w8.cell? ⟨bF,0,none⟩)):=Hd fun w8 v hr h8 hv gD=>by
  obtain⟨na,nl,nc,gF⟩:=hB.n_;have gf:w8.heap[bN]?=some (.cells #[.slice na nl nc] 40 (0,0)):=by
   rw[hr.keep bN (by have:=g6.size;omega) (fun e=>by have e:bN=W.heap.size+1:=e;omega),g6.block bN lN];exact gF
  obtain⟨w9,gc⟩:∃ w9,w9=w8.setCell ⟨bN,0,none⟩ v:=⟨_,rfl⟩;have gg:∀ q:Nat,q≠bN->w9.heap[q]?=w8.heap[q]?:=fun q hq=>by rw[gc];exact Zad hq _
  have gv:w9.heap[bN]?=some (.cells #[v] 40 (0,0)):=by rw[gc];exact Zae gf _
  have gm:Wr (· = bN) w8 w9:=by rw[gc];exact(Wr.refl (· = bN) w8).setCell (p:=⟨bN,0,none⟩) (.inl rfl) v
  have gt:Wr (· = bN) W w9:=((Wr.of_below g6 (· = bN)).trans hr (fun _ _ e=>e) (fun k hk e=>by have e:k=W.heap.size+1:=e;omega)).trans gm (fun _ _ e=>e) (fun _ _ e=>e);have gs:NatV w9 v (totN m.d.vars.length fx (ef V f)):=hv.keepC fun b j d hc=>gg b fun e=>by
   subst e;rw[cell_of_row _ _ _ _ _ _ gf] at hc;rcases(show j=0\/1<=j by omega) with rfl|hj
   . simp at hc
   . rw[Array.getElem?_eq_none (by simpa using hj)] at hc;cases hc
  have gE:o bN=none:=(hC bN (.inr (.inr (.inr (.inl rfl))))).2;obtain⟨va',vl',vc',gr⟩:∃ a l c,v=.slice a l c:=by
   obtain⟨a,c,e,_⟩:=hv;exact⟨a,_,c,e⟩
  refine⟨w9,⟨va',vl',vc',gr⟩,?_,?_,World.cell?_of_block (w:=w8) (a:=⟨W.heap.size+1+1+1,0,none⟩) (gg (W.heap.size+1+1+1) (by omega)),World.cell?_of_block (w:=w8) (a:=⟨W.heap.size,0,none⟩) (gg W.heap.size (by omega)),World.cell?_of_block (w:=w8) (a:=⟨bF,0,none⟩) (gg _ (hne bF (.inr (.inr (.inl rfl)))))⟩
  . exact⟨⟨_,cell1 gf⟩,by simp[World.frozen?,gf],gc.symm⟩
  ·rw[hP];refine⟨o,m,V,⟨h8.is.other h8.lt gm (fun q _ e=>by have e:q=bN:=e;subst e;exact gE),h8.lt.mono gm.size,ChgX.of_wr gt o (fun q _ e=>.inr (.inr (.inr (.inl e)))),hk,Ext.refl _ _,rfl,rfl⟩,?_,.inl ⟨rfl,gq,gu,v,cell1 gv,?_,gD⟩⟩
   ·have g8:∀ q,(q=bA\/q=bX\/q=bF\/va.ownBlock=some q\/fv=.map (some q))->w9.heap[q]?=W.heap[q]?:=fun q hq=>gt.keep q (hC q (by
     rcases hq with e|e|e|e|e
     . exact .inl e
     . exact .inr (.inl e)
     . exact .inr (.inr (.inl e))
     . exact .inr (.inr (.inr (.inr (.inl e))))
     . exact .inr (.inr (.inr (.inr (.inr e)))))).1 (hne q hq)
    refine⟨⟨va',vl',vc',by rw[<- gr];exact gv⟩,(World.cell?_of_block (w:=W) (a:=⟨bA,0,none⟩) (g8 _ (.inl rfl))).trans hB.a_,hB.an.keepO fun q e=>g8 q (.inr (.inr (.inr (.inl e)))),(World.cell?_of_block (w:=W) (a:=⟨bX,0,none⟩) (g8 _ (.inr (.inl rfl)))).trans hB.x_,hB.fx_.keepO fun q e=>g8 q (.inr (.inr (.inr (.inr e)))),(World.cell?_of_block (w:=W) (a:=⟨bF,0,none⟩) (g8 _ (.inr (.inr (.inl rfl))))).trans hB.f_,fun q e=>(g8 q (.inr (.inr (.inr (.inr e))))).trans (hB.s_ q e)⟩
   . rw[g9,gw] at gs;exact gs
 have gk:Hid (Calls prog 127 #[.int .i64 f,.pointer (some ⟨bA,0,none⟩),.pointer (some ⟨W.heap.size+1+1+1,0,none⟩),.pointer (some ⟨W.heap.size+1+1,0,none⟩),.pointer (some ⟨W.heap.size,0,none⟩),.pointer (some ⟨bX,0,none⟩)] wd fun x w'=>∃ u,x=.returned u/\(w'.cell? ⟨W.heap.size+1+1+1,0,none⟩=some (.func (.func 127) #[] #[.pointer (some ⟨bA,0,none⟩),.pointer (some ⟨W.heap.size+1+1+1,0,none⟩),.pointer (some ⟨W.heap.size+1+1,0,none⟩),.pointer (some ⟨W.heap.size,0,none⟩),.pointer (some ⟨bX,0,none⟩)])/\w'.cell? ⟨W.heap.size,0,none⟩=some (.pointer (some ⟨xb,0,none⟩))/\w'.cell? ⟨bF,0,none⟩=some (.int .i64 k))/\∃ w9,(∃ a l c,u=.slice a l c)/\((∃ y,w'.cell? ⟨bN,0,none⟩=some y)/\w'.frozen? ⟨bN,0,none⟩=false/\w'.setCell ⟨bN,0,none⟩ u=w9)/\P (.returned (.tuple #[])) w9/\(w9.cell? ⟨W.heap.size+1+1+1,0,none⟩=some (.func (.func 127) #[] #[.pointer (some ⟨bA,0,none⟩),.pointer (some ⟨W.heap.size+1+1+1,0,none⟩),.pointer (some ⟨W.heap.size+1+1,0,none⟩),.pointer (some ⟨W.heap.size,0,none⟩),.pointer (some ⟨bX,0,none⟩)])/\w9.cell? ⟨W.heap.size,0,none⟩=some (.pointer (some ⟨xb,0,none⟩))/\w9.cell? ⟨bF,0,none⟩=some (.int .i64 k))):=Hd (gj.mono (by
  rintro x w' ⟨v,rfl,q1,q2,q3,q4⟩;obtain⟨w9,rs,r1,r2,r3,r4,r5⟩:=gp.out w' v q1 q2 q3 q4;have kf':w'.cell? ⟨bF,0,none⟩=some (.int .i64 k):=(World.cell?_of_block (w:=wd) (a:=⟨bF,0,none⟩) (q1.keep bF (Zab kF) (fun e=>by have e:bF=W.heap.size+1:=e;omega))).trans kF;exact⟨v,rfl,⟨q2.bt,q2.bx,kf'⟩,w9,rs,r1,r2,⟨r3.trans q2.bt,r4.trans q2.bx,r5.trans kf'⟩⟩))
 rw[<- hP];have eg1:=Zgg;have gK:Hid (_=w5):=Hd g7.symm;clear hP gp gj hs ge hk gw hf gn gB gC g4 hB hC gi hnx hne hm gx go g6 ga gh e6 g0 g1 g2 g3 g5 g7 gb k5 km kc gA gl g9 lN lA lX lF gq gu
 go_enter func126,ntmps126
 go_upto_region 3 with fail;rw[gG.out];go_upto_region 4 with fail;refine Zfw [0,1,2,3,4,5] (fun W'=>W'.cell? ⟨W.heap.size+1+1+1,0,none⟩=some (.func (.func 127) #[] #[.pointer (some ⟨bA,0,none⟩),.pointer (some ⟨W.heap.size+1+1+1,0,none⟩),.pointer (some ⟨W.heap.size+1+1,0,none⟩),.pointer (some ⟨W.heap.size,0,none⟩),.pointer (some ⟨bX,0,none⟩)])/\W'.cell? ⟨W.heap.size,0,none⟩=some (.pointer (some ⟨xb,0,none⟩))/\W'.cell? ⟨bF,0,none⟩=some (.int .i64 k)) (fun ch w'=>False) (fun c a w hd h=>h.elim) (by kernel_rfl) (by rw[<- gy.out];exact⟨k6,k3,kF⟩) ?_;rw[<- gy.out]
 iterate 3
  refine Zea rfl rfl (by kernel_rfl) ?_;apply Exists.intro;refine⟨fun w' hw=>?_,?_⟩
  . obtain⟨q1,q2,q3⟩:=hw;go_simp;rfl
  simp only[Zai]
 refine Zbr (R1:=fun u w'=>u=.int .i64 f/\wd=w') rfl (by kernel_rfl) rfl rfl (by go_simp) (gz.out.mono fun x w' h=>⟨_,h.1,rfl,h.2⟩) (by rintro u w' ⟨_,rfl⟩;exact⟨k6,k3,kF⟩) ?_;rintro u w'-⟨rfl,rfl⟩;simp only[Zai];refine Zbr (R1:=fun u w'=>(w'.cell? ⟨W.heap.size+1+1+1,0,none⟩=some (.func (.func 127) #[] #[.pointer (some ⟨bA,0,none⟩),.pointer (some ⟨W.heap.size+1+1+1,0,none⟩),.pointer (some ⟨W.heap.size+1+1,0,none⟩),.pointer (some ⟨W.heap.size,0,none⟩),.pointer (some ⟨bX,0,none⟩)])/\w'.cell? ⟨W.heap.size,0,none⟩=some (.pointer (some ⟨xb,0,none⟩))/\w'.cell? ⟨bF,0,none⟩=some (.int .i64 k))/\∃ w9,(∃ a l c,u=.slice a l c)/\((∃ y,w'.cell? ⟨bN,0,none⟩=some y)/\w'.frozen? ⟨bN,0,none⟩=false/\w'.setCell ⟨bN,0,none⟩ u=w9)/\P (.returned (.tuple #[])) w9/\(w9.cell? ⟨W.heap.size+1+1+1,0,none⟩=some (.func (.func 127) #[] #[.pointer (some ⟨bA,0,none⟩),.pointer (some ⟨W.heap.size+1+1+1,0,none⟩),.pointer (some ⟨W.heap.size+1+1,0,none⟩),.pointer (some ⟨W.heap.size,0,none⟩),.pointer (some ⟨bX,0,none⟩)])/\w9.cell? ⟨W.heap.size,0,none⟩=some (.pointer (some ⟨xb,0,none⟩))/\w9.cell? ⟨bF,0,none⟩=some (.int .i64 k))) rfl (by kernel_rfl) rfl rfl (by go_simp) (gk.out.mono fun x w' ⟨u,e,q⟩=>⟨u,e,q⟩) (by rintro u w' ⟨q,_⟩;exact q) ?_;rintro u w8-⟨⟨s1,s2,s3⟩,w9,⟨ua,ul,uc,rfl⟩,⟨⟨cy,cN⟩,fN,gd⟩,hp,hS⟩;have HF:=Hd hp;clear hp;simp only[Zai];refine Yaq (w':=w9) rfl (by kernel_rfl) rfl rfl (by go_simp<;>exact gd) hS ?_;clear gd hS s1 s2 s3 cN fN;simp only[Zai];refine Zld (by kernel_rfl) ?_;clear k6 k3 kF gk gz;go_wp2_with fail;refine bodyPost_end (results_none rfl _ _ _) rfl ?_;exact HF.out
theorem Zzg (h:SatE K n Od room w0 mb fs nx w o m V){k:Int}{G:BF}(hf:(k,G)∈fs){fv:Value}{fx:Nat->Option Bool}(hfx:Zht w fv fx)(hfo:∀ q,fv=.map (some q)->q<w.heap.size/\w0.heap.size<=q/\o q=none) :
 Calls prog 70 #[.pointer (some ⟨mb,0,none⟩),.int .i64 k,fv] w fun x w'=>∃ v,x=.returned (.tuple #[v,.int .i64 0])/\NatV w' v (totN n fx G)/\AskN K n Od room w0 mb fs nx m o w w' v:=by
 have gy:∀ (fn:Fn) (first cap:Array Value) (w:World),(Instr.makeFunc fn first cap).run prog w=.ok (.func fn first cap) w:=fun _ _ _ _=>rfl
 have hw0:=h.chg.size;obtain⟨fm,rfl⟩:∃ q,fv=.map q:=by
  rcases hfx with ⟨e,_⟩|⟨ft,l,e,_⟩
  . exact⟨_,e⟩
  . exact⟨_,e⟩
 have hn64:n<=64:=by have:=h.ok.store.small;rw[h.vars] at this;exact this
 obtain⟨s,hs⟩:∃ s,s=w.heap.size:=⟨_,rfl⟩;obtain⟨w1,g3⟩:∃ w1,w1=((w.alloc (.cells #[.int .i64 k] 3)).alloc (.cells #[.map fm] 127)).alloc (.cells #[.slice none 0 0] 40):=⟨_,rfl⟩;have go:w1.heap.size=s+1+1+1:=by rw[g3,hs];simp
 have gj:Below w.heap.size w w1:=by rw[g3];exact((Zaf _ _).alloc (by simp) _).alloc (by simp;omega) _
 have g0:w1.heap[s]?=some (.cells #[.int .i64 k] 3 (0,0)):=by
  rw[g3,hs];exact(Go.heap_alloc_old _ _ (by simp;omega)).trans ((Go.heap_alloc_old _ _ (by simp)).trans (heap_alloc_new _ _))
 have g1:w1.heap[s+1]?=some (.cells #[.map fm] 127 (0,0)):=by
  have:=heap_alloc_new (w.alloc (.cells #[.int .i64 k] 3)) (.cells #[.map fm] 127);rw[World.size_alloc] at this;rw[g3,hs];exact(Go.heap_alloc_old _ _ (by simp)).trans this
 have g2:w1.heap[s+1+1]?=some (.cells #[.slice none 0 0] 40 (0,0)):=by
  have:=heap_alloc_new ((w.alloc (.cells #[.int .i64 k] 3)).alloc (.cells #[.map fm] 127)) (.cells #[.slice none 0 0] 40);rw[World.size_alloc,World.size_alloc] at this;rw[g3,hs];exact this
 have gn:=Hd (Zks (w:=w1) (n:=1) (by omega))
 have gd:Hid (∀ w2 v1,Below w1.heap.size w1 w2->NatV w2 v1 1->Calls prog 69 #[.pointer (some ⟨mb,0,none⟩)] w2 (fun x w'=>x=.returned (.int .i64 (n:Nat))/\w2=w') /\
  Calls prog 20 #[v1,.int .i64 (n:Nat)] w2 fun x w3=>∃ va,(∃ a l c,va=.slice a l c)/\x=.returned va /\
   Calls prog 96 #[.pointer (some ⟨mb,0,none⟩),.func (.func 126) #[] #[.pointer (some ⟨w3.heap.size,0,none⟩),.pointer (some ⟨s+1,0,none⟩),.pointer (some ⟨s,0,none⟩),.pointer (some ⟨s+1+1,0,none⟩)]] (w3.alloc (.cells #[va] 40)) fun x w'=>x=.returned (.int .i64 0)/\∃ v,w'.heap[s+1+1]?=some (.cells #[v] 40 (0,0))/\NatV w' v (totN n fx G)/\AskN K n Od room w0 mb fs nx m o w w' v):=Hd fun w2 v1 g5 gc=>by
  have g8:Below w.heap.size w w2:=gj.trans (g5.mono gj.size);have gk:=h.below g8;refine⟨?_,?_⟩
  . have hv:=Zdw gk.is;rw[gk.vars] at hv;exact hv
  ·refine(Zrl gc (by rw[Zdy (by omega),Zbn];simp) (show n<=4096 by omega)).mono ?_;rintro x w3 ⟨⟨va,rfl,ge,ga,qa,e,gz⟩,gi⟩;rw[Nat.one_mul] at ge;refine⟨va,⟨_,_,_,e⟩,rfl,?_⟩;have gx:=g5.size;have gw:=gi.size;obtain⟨w4,gb⟩:∃ w4,w4=w3.alloc (.cells #[va] 40):=⟨_,rfl⟩;rw[<- gb];have gh:Below w3.heap.size w3 w4:=by rw[gb];exact Zaf _ _
   have gv:w4.heap.size=w3.heap.size+1:=by rw[gb];simp
   have gA:w4.heap[w3.heap.size]?=some (.cells #[va] 40 (0,0)):=by rw[gb];exact heap_alloc_new _ _
   have gg:Below w.heap.size w w3:=g8.trans (gi.mono g8.size);have g7:Below w.heap.size w w4:=gg.trans (gh.mono gg.size);have g9:Below w1.heap.size w1 w4:=(g5.trans (gi.mono g5.size)).trans (gh.mono (by omega));have gp:=h.below g7;have e0:w4.heap[s]?=_:=(g9.block s (by omega)).trans g0;have e1:w4.heap[s+1]?=_:=(g9.block (s+1) (by omega)).trans g1;have e2:w4.heap[s+1+1]?=_:=(g9.block (s+1+1) (by omega)).trans g2;have g6:∀ q,va.ownBlock=some q->q=ga:=fun q hq=>by rw[e] at hq;exact(Option.some.inj hq).symm
   have gu:ga<w3.heap.size:=by
    obtain⟨a,c,e3,_,_,hu⟩:=ge;have hl:0<(digD (2^n)).length:=by rw[Zdy (Nat.pos_iff_ne_zero.1 (Nat.pow_pos (by omega)))];simp
    obtain⟨b,off,e4,hc⟩:=hu.cells 0 hl;rw[e,e4] at e3;injection e3 with e5
    have e6:ga=b:=by injection e5 with e7;injection e7
    rw[e6];exact Zab hc
   have gr:BoT n w4 w3.heap.size (s+1) s (s+1+1) va (.map fm) fx k w4:=⟨⟨none,0,0,e2⟩,cell1 gA,ge.below gh,cell1 e1,hfx.below g7,cell1 e0,fun _ _=>rfl⟩;have hC:∀ q,CsT w3.heap.size (s+1) s (s+1+1) va (.map fm) q->q<w4.heap.size/\o q=none:=by
    rintro q (rfl|rfl|rfl|rfl|e|e)
    . exact⟨by omega,h.lt.none (by omega)⟩
    . exact⟨by omega,h.lt.none (by omega)⟩
    . exact⟨by omega,h.lt.none (by omega)⟩
    . exact⟨by omega,h.lt.none (by omega)⟩
    . rw[g6 q e];exact⟨by omega,h.lt.none (by omega)⟩
    . have:=hfo q e;exact⟨by omega,this.2.2⟩
   have gs:∀ q,CsT w3.heap.size (s+1) s (s+1+1) va (.map fm) q->w0.heap.size<=q:=by
    rintro q (rfl|rfl|rfl|rfl|e|e)
    . omega
    . omega
    . omega
    . omega
    . rw[g6 q e];omega
    . exact(hfo q e).2.1
   have gq:∀ q,(q=w3.heap.size\/q=s+1\/q=s\/va.ownBlock=some q\/(.map fm:Value)=.map (some q))->q≠s+1+1:=by
    rintro q (rfl|rfl|rfl|e|e)
    . omega
    . omega
    . omega
    . rw[g6 q e];omega
    . have:=(hfo q e).1;omega
   have hL:=Zp6 (B:=BoT n w4 w3.heap.size (s+1) s (s+1+1) va (.map fm) fx k) (QP:=TotQ m.waits m.d.vars (s+1+1) (totN n fx G) 0) (St:=fun m'=>m'.waits=m.waits/\m'.d.vars=m.d.vars) (fun _ _ hb hk=>hb.keep hk) (fun s' o' W W' m' V' hc hz hu hq a=>by
    obtain⟨q1,q2,v,q3,q4,q5⟩:=hq;have hN:=hc (s+1+1) (.inr (.inr (.inr (.inl rfl))));refine⟨q1,q2,v,(World.cell?_of_block (w:=W) (a:=⟨s+1+1,0,none⟩) (a.keep (s+1+1) (by omega) (by omega))).trans q3,q4.keepC fun b j d gf=>a.keep b (Zab gf) (fun e=>?_),q5⟩;rcases e with rfl|rfl
    . exact hu.1 j d gf
    . exact hu.2 j d gf) (fun m' d hm hr=>⟨hm.1,by show d.vars=_;rw[hr.vars];exact hm.2⟩) gs Zrt (Ybg (E:=fun _ _ _=>False) gq hf m.waits m.d.vars) gp gr hC ⟨rfl,rfl⟩
   refine hL.mono ?_;rintro x w' ⟨er,rfl,o',m',V',hs',gl,hc,⟨rfl,q1,q2,v,q3,q4,q5⟩|⟨_,m0,e,_⟩⟩
   ·obtain⟨na,nl,nc,hn⟩:=gl.n_;have hv:v=.slice na nl nc:=Option.some.inj (q3.symm.trans (cell1 hn));refine⟨rfl,v,by rw[hv];exact hn,q4,o',m',V',?_,q1,q2,hs',q5⟩;have g4:ChgX (CsT w3.heap.size (s+1) s (s+1+1) va (.map fm)) o o' w w':=(ChgX.of_below g7 o _).trans hc (fun _ _ e=>e);refine⟨g4.os,g4.tape,g4.output,g4.size,fun k hk ho _=>?_,g4.ext,g4.new⟩
    by_cases e:CsT w3.heap.size (s+1) s (s+1+1) va (.map fm) k
    ·rcases e with e|e|e|e|e|e
     . omega
     . omega
     . omega
     . omega
     . have:=g6 k e;omega
     . exact(gl.s_ k e).trans (g7.block k hk)
    . exact g4.block k hk ho e
   . exact e.elim
 have HW1:=Hd g3.symm;obtain⟨P,hP⟩:∃ P:Ending->World->Prop,P=fun x w'=>∃ v,x=.returned (.tuple #[v,.int .i64 0])/\NatV w' v (totN n fx G)/\AskN K n Od room w0 mb fs nx m o w w' v:=⟨_,rfl⟩
 have HP:Hid (∀ w' v,NatV w' v (totN n fx G)->AskN K n Od room w0 mb fs nx m o w w' v->P (.returned (.tuple #[v,.int .i64 0])) w'):=Hd fun w' v h1 h2=>by rw[hP];exact⟨v,rfl,h1,h2⟩
 have HS:=Hd hs;rw[<- hP];clear hP h hw0 hn64 g3 go gj g0 g1 g2 hf hfx hfo hs
 go_enter func70,ntmps70
 go_upto_region 1 with fail;rw[HW1.out,<- HS.out];go_wp2_with fail;refine gn.out.mono ?_;rintro x w2 ⟨⟨v1,rfl,gc⟩,g5⟩;obtain⟨q1,q2⟩:=gd.out w2 v1 g5 gc;have HV:=Hd q1;have gm:=Hd q2;clear q1 q2 g5 gc gd gn;go_wp2_with fail;refine HV.out.mono ?_;rintro x w' ⟨rfl,rfl⟩;go_wp2_with fail;refine gm.out.mono ?_;rintro x w3 ⟨va,⟨ya,yl,yc,rfl⟩,rfl,hL⟩;have HL:=Hd hL;clear hL HV gm;go_wp2_with fail;refine HL.out.mono ?_;rintro x w' ⟨rfl,v,q2,q3,q4⟩;have HF:=Hd (HP.out w' v q3 q4);have gt:=Hd (Zjv q2);have c2:=cell1 q2;have f1:w'.frozen? ⟨s+1+1,0,none⟩=false:=by simp[World.frozen?,q2]
 obtain⟨va',vl',vc',rfl⟩:∃ a l c,v=.slice a l c:=by
  obtain⟨a,c,e,_⟩:=q3;exact⟨a,_,c,e⟩
 clear q3 q4 HL HP;go_wp2_with fail;rw[gt.out];have hu:=underlying40;refine bodyPost_ret (v:=.tuple #[.slice va' vl' vc',.int .i64 0]) ((results_cell_tmp rfl _ _ _).trans ?_) rfl HF.out
 show ((asAddr (.pointer (some ⟨s+1+1,0,none⟩))).run prog w').andThen (fun a w₁=>((loadVar 40 a).run prog w₁).andThen fun v w₂=>.ok (Value.tuple #[v,.int .i64 0]) w₂)=_
 go_simp
end
open Go.RowKit
section
variable {K:Law}{n:Nat}{Od:List Nat->Prop}{room:Nat}{w0 w:World}{fs:List (Int×BF)}{nx:Int}{o:Own}{mb:Nat}{m:ManD}{V:Nat->BF}
def known (fs:List (Int×BF))(k:Int):Prop:=∃ F,(k,F)∈fs
theorem Zr3 (h:SatE K n Od room w0 mb fs nx w o m V)(k:Int){b:Bool}(hb:b=true↔known fs k):Calls prog 29 #[.pointer (some ⟨mb,0,none⟩),.int .i64 k] w fun x w'=>x=.returned (.bool b)/\w=w':=by
 cases b with
 | true =>
   obtain⟨F,hF⟩:=hb.1 rfl;exact Zp8 h hF
 | false=>exact Yai h (fun p hp e=>by
  have:known fs k:=⟨p.2,by rw[<- e];exact hp⟩;have:=hb.2 this;cases this)
end
open Go.RowKit
theorem Zxe {w:World}{v:Value}{x k:Nat}(h:NatV w v x)(hk:k<=4096) :
 Calls prog 71 #[v,.int .i64 (k:Nat)] w fun e w'=>(∃ v',e=.returned v'/\NatV w' v' (x/2^k)/\∀ q,v'.ownBlock=some q->v.ownBlock=some q\/w.heap.size<=q)/\Below w.heap.size w w':=by
 obtain⟨P,hP⟩:∃ P:Ending->World->Prop,P=fun e w'=>(∃ v',e=.returned v'/\NatV w' v' (x/2^k)/\∀ q,v'.ownBlock=some q->v.ownBlock=some q\/w.heap.size<=q)/\Below w.heap.size w w':=⟨_,rfl⟩
 have g1:=Hd hP;rw[<- hP];have H0:Hid (NatV w v (x/2^0)/\∀ q,v.ownBlock=some q->v.ownBlock=some q\/w.heap.size<=q):=Hd ⟨by simpa using h,fun q e=>.inl e⟩;have g2:Hid (Below w.heap.size w w):=Hd (Below.refl _ _);clear hP h
 go_enter func71,ntmps71
 go_wp2_with fail
 go_loopw [0,6] (fun s0 s6 wr=>∃ j:Nat,j<=k/\s6=.int .i64 (j:Int)/\Hid (NatV wr s0 (x/2^j)/\∀ q,s0.ownBlock=some q->v.ownBlock=some q\/w.heap.size<=q)/\Hid (Below w.heap.size w wr)) (fun _ s6 _=>k-(intOf s6).toNat)
 case atStart=>exact⟨0,Nat.zero_le _,rfl,H0,g2⟩
 case round =>
  obtain⟨j,hj,rfl,HV,HB⟩:=hrel
  by_cases g4:j<k
  ·have g5:(j:Int)<(k:Int):=by omega
   have HH:=Hd (Zg0 HV.out.1);clear HV;go_wp2_with fail;refine HH.out.mono ?_;rintro e w' ⟨⟨v',rfl,hv,hq⟩,hb⟩;have g0:Hid (NatV w' v' (x/2^(j+1))/\∀ q,v'.ownBlock=some q->v.ownBlock=some q\/w.heap.size<=q):=Hd ⟨by rw[Nat.pow_succ,<- Nat.div_div_eq_div_mul];exact hv,fun q e=>.inr (Nat.le_trans HB.out.size (hq q e))⟩;have HB2:=Hd (HB.out.trans (hb.mono HB.out.size));clear hv hq hb HH HB;go_wp2_with fail;go_roundw
   case rel=>exact⟨j+1,by omega,by rw[show ((j+1:Nat):Int)=(j:Int)+1 by omega],g0,HB2⟩
   case measure=>simp[intOf];omega
  ·obtain rfl:j=k:=by omega
   have g3:¬ (j:Int)<(j:Int):=by omega
   have HF:Hid (P (.returned u0) wr):=Hd (by rw[g1.out];exact⟨⟨_,rfl,HV.out.1,HV.out.2⟩,HB.out⟩);clear HV HB;go_wp2_with fail;exact HF.out
section
variable {K:Law}{n:Nat}{Od:List Nat->Prop}{room:Nat}{w0 w:World}{mb:Nat}{fs:List (Int×BF)}{nx:Int}{o:Own}{m:ManD}{V:Nat->BF}
theorem Zio (h:SatE K n Od room w0 mb fs nx w o m V)(k:Int){b:Bool}(hb:b=true↔known fs k) :
 Calls prog 68 #[.pointer (some ⟨mb,0,none⟩),.int .i64 k] w fun e w'=>e=.returned (.int .i64 (if b then 0 else 8))/\w=w':=by
 have HK:=Hd (Zr3 h k hb);clear h hb;cases b with
 | true =>
   go_enter func68,ntmps68
   go_wp2_with fail;refine HK.out.mono ?_;rintro e w' ⟨rfl,rfl⟩;go_wp2_with fail;go_ret;exact⟨rfl,rfl⟩
 | false =>
   go_enter func68,ntmps68
   go_wp2_with fail;refine HK.out.mono ?_;rintro e w' ⟨rfl,rfl⟩;go_wp2_with fail;go_ret;exact⟨rfl,rfl⟩
end
open Go.RowKit
theorem Yc9 {i n:Nat}(hi:i<2^n):Zdc (Zdb i (n+1))=upd (Zdc (Zdb i n)) n false:=funext fun v=>by
 unfold upd Zdc Zdb
 by_cases h:v=n
 . subst h;simp[List.getD,bitB,Nat.div_eq_of_lt hi]
 ·rw[if_neg h];rcases Nat.lt_or_ge v n with c|c
  . simp[List.getD,c,show v<n+1 by omega]
  . simp[List.getD,show ¬ v<n by omega,show ¬ v<n+1 by omega]
theorem Zz2 {i n:Nat}(hi:i<2^n):Zdc (Zdb (2^n+i) (n+1))=upd (Zdc (Zdb i n)) n true:=funext fun v=>by
 unfold upd Zdc Zdb
 by_cases h:v=n
 ·subst h;have e:(2^v+i)/2^v=1:=by
   rw[Nat.add_div_left _ (Nat.pow_pos (by omega)),Nat.div_eq_of_lt hi]
  simp[List.getD,bitB,e]
 ·rw[if_neg h];rcases Nat.lt_or_ge v n with c|c
  ·have e:(2^n+i)/2^v%2=i/2^v%2:=by
    have h2:2^n=2^v*(2*2^(n-v-1)):=by
     rw[<- Nat.pow_succ',<- Nat.pow_add];congr 1;omega
    rw[h2,Nat.mul_add_div (Nat.pow_pos (by omega))];omega
   simp[List.getD,c,show v<n+1 by omega,bitB,e]
  . simp[List.getD,show ¬ v<n by omega,show ¬ v<n+1 by omega]
theorem Zy7 (n:Nat)(F:BF):tabB (n+1) F=tabB n (cofF F n false)++tabB n (cofF F n true):=by
 unfold tabB;rw[Nat.pow_succ,Nat.mul_two,List.range_add,List.map_append,List.map_map];congr 1
 ·refine List.map_congr_left fun i hi=>?_
  rw[Yc9 (List.mem_range.1 hi)];rfl
 ·refine List.map_congr_left fun i hi=>?_
  show F (Zdc (Zdb (2^n+i) (n+1)))=_
  rw[Zz2 (List.mem_range.1 hi)];rfl
theorem Zg2:∀ (n:Nat) (F:BF),(tabB n F).count true=cntN n F fun _=>false
 | 0,F=>by
   show ([F (Zdc (Zdb 0 0))]:List Bool).count true=if F _=true then 1 else 0
   have:Zdc (Zdb 0 0)=fun _=>false:=funext fun v=>by simp[Zdc,Zdb]
   rw[this];cases F fun _=>false<;>rfl
 | n+1,F=>by
   rw[Zy7,List.count_append,Zg2 n,Zg2 n,Zdi F n false n _ (Nat.le_refl _),Zdi F n true n _ (Nat.le_refl _)];rfl
end Go.Proofs.YtgmbklaolcmljaaGreat
