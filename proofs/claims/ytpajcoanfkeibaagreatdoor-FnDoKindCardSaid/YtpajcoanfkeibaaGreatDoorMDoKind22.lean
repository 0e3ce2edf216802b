/- Lemmas (several texts in one). -/
import Derived.Test.YtpajcoanfkeibaaGreatDoorMDoKind6
import Derived.Test.YtpajcoanfkeibaaGreatDoorMDoKind16
set_option maxRecDepth 100000
set_option maxHeartbeats 4000000
set_option linter.unusedSimpArgs false
set_option linter.unusedVariables false
open List renaming getD_eq_getElem?_getD → Cda, map_map → Cdb
namespace Go.Proofs.YtpajcoanfkeibaaGreatDoor.Code
open Go Go.Ev Go.Proofs
theorem Cal (e:En) (t:Br):Be (ev R) 47 [.d (Jn e), .d (.rptr [.str t])]=some (.d (.bool (decide (e.key=t)))):=Bb fun H=>by
 refine Bh (fn:=f47) rfl rfl ?_
 simp(maxSteps:=1000000) [Ci,-Cda,-Cdb,f47]
def nAt (es:List En) (t:Br):Nat:=(es.takeWhile fun e=> !decide (e.key=t)).length
def aV (es:List En) (t:Br):Int:=if nAt es t<es.length then(nAt es t:Int) else -1
theorem B07 (es:List En) (t:Br):nAt es t≤es.length:=Bji _ _
theorem Cak (es:List En) (t:Br) (hx:es.length≤1000000):Be (ev R) 46 [.d (La es), .d (.fn (.func 47) [.rptr [.str t]])]=some (.d (.int .i64 (aV es t))):=Bb fun H=>by
 refine Bh (fn:=f46) rfl rfl ?_
 obtain⟨o,e',X',he,rfl,ho⟩:=(C9 (F:=Bq (ev R) R.glob (Bc H) Bg Bhp) (lv:=[0,1,7,8]) es.length
  (fun i e X=>X=H∧e.get 0= .d (La es)∧e.get 1= .d (.fn (.func 47) [.rptr [.str t]])∧e.get 7= .d (.int .i64 es.length)∧e.get 8= .d (.int .i64 i)∧i≤nAt es t)
  (fun o e X=>X=H∧((o= .exit 0∧¬nAt es t<es.length)∨(o= .ret∧nAt es t<es.length∧e.get 4= .d (.int .i64 (nAt es t)))))
  (by
   rintro e X ⟨rfl,g0,g1,g7,g8,hi⟩
   have hn:nAt es t=es.length:=Nat.le_antisymm (B07 es t) hi
   simp[Cg,-Cda,-Cdb,Bhp,g0,g1,g7,g8,hn])
  (by
   rintro i e X hi ⟨rfl,g0,g1,g7,g8,hk⟩
   have c: (i:Int)< (es.length:Int):=by omega
   have g:=Gt es i hi
   have w1:IntKind.i64.wrap ((i:Int)+1)=((i+1:Nat):Int):=by rw[IntWalk.i64_in _ (by omega)];rfl
   have p:=Cal (es.getD i default) t
   cases h:decide ((es.getD i default).key=t) with
   |false=>
    have hn:=R5 (fun e:En=> !decide (e.key=t)) default es i hk hi (by show(!decide ((es.getD i default).key=t))=_;rw[h];rfl)
    have hn':i+1≤nAt es t:=hn
    rw[h] at p
    simp[Cg,-Cda,-Cdb,Bhp,g0,g1,g7,g8,c,hi,g,w1,p,hn',La]
   |true=>
    have hn:i=nAt es t:=R6 (fun e:En=> !decide (e.key=t)) default es i hk hi (by show(!decide ((es.getD i default).key=t))=_;rw[h];rfl)
    have hl:nAt es t<es.length:=by omega
    rw[h] at p
    simp[Cg,-Cda,-Cdb,Bhp,g0,g1,g7,g8,c,hi,g,w1,p,←hn,hl,La])
  es.length 0 [(0, .d (La es)),(1, .d (.fn (.func 47) [.rptr [.str t]])),(7, .d (.int .i64 es.length)),(8, .d (.int .i64 0))] H (by omega) ⟨rfl,rfl,rfl,rfl,rfl,Nat.zero_le _⟩).out
 rcases ho with⟨rfl,hl⟩ | ⟨rfl,hl,g4⟩
 ·simp[Cg,-Cda,-Cdb,f46,he,hl,aV,La]
 ·simp[Cg,-Cda,-Cdb,f46,he,hl,aV,g4,La]
theorem Bxs (b:Ba) (t:Br) (hx:b.ents.length≤1000000):Be (ev R) 23 [.d (Df b), .d (.str t)]=some (.d (.int .i64 (aV b.ents t))):=Bb fun H=>by
 refine Bh (fn:=f23) rfl rfl ?_
 have p:=Cak b.ents t hx
 simp(maxSteps:=1000000) [Ci,-Cda,-Cdb,f23,p,La]
end Go.Proofs.YtpajcoanfkeibaaGreatDoor.Code
