/- Lemmas (several texts in one). -/
import Derived.Test.YtpajcoanfkeibaaGreatDoorMDoKind6
import Derived.Test.YtpajcoanfkeibaaGreatDoorMDoKind13
set_option maxRecDepth 100000
set_option maxHeartbeats 2000000
set_option linter.unusedSimpArgs false
set_option linter.unusedVariables false
open List renaming getD_eq_getElem?_getD → Cda, map_map → Cdb
namespace Go.Proofs.YtpajcoanfkeibaaGreatDoor.Code
open Go Go.Ev Go.Proofs
def Gm (s:Br):Bool:=decide ((s.length:Int)≥1) &&decide ((s.length:Int)≤12)
def Ff (n:Int):Bool:=decide (n≥0) &&decide (n≤2000000)
def Mc (e:En):Bool:=
 if e.kind=1 then decide (e.text.length≤40) &&e.list.isEmpty&&e.scores.isEmpty&&e.fields.isEmpty
 else if e.kind=2 then e.text.isEmpty&& !e.list.isEmpty&&Ch e.list&&e.scores.isEmpty&&e.fields.isEmpty
 else if e.kind=3 then e.text.isEmpty&& !e.list.isEmpty&&Gg e.list&&e.scores.isEmpty&&e.fields.isEmpty
 else if e.kind=4 then e.text.isEmpty&&e.list.isEmpty&& !e.scores.isEmpty&&Dj e.scores&&e.fields.isEmpty
 else if e.kind=5 then e.text.isEmpty&&e.list.isEmpty&&e.scores.isEmpty&& !e.fields.isEmpty&&Dm e.fields
 else false
def Gl (e:En):Bool:=Gm e.key&&Ff e.till&&Mc e
theorem Bm9 (H:Hp) (e:En) (hf:EnFit e) (hk:Gm e.key=false∨Ff e.till=false):ev R 37 [.d (Jn e)] H=some (.d (.bool (Gl e)),H):=by
 refine Bh (fn:=f37) rfl rfl ?_
 have pk:Be (ev R) 59 [.d (.str e.key)]=some (.d (.bool (Gm e.key))):=Bb (cl:=ev R) fun H=>Bhg H e.key
 have pt:Be (ev R) 38 [.d (.int .i64 e.till), .d (.int .i64 0), .d (.int .i64 2000000)]=some (.d (.bool (Ff e.till))):=Pt e.till 0 2000000
 have p80:=Bb (cl:=ev R) fun H=>Bfk H e.list hf.list
 have p81:=Bb (cl:=ev R) fun H=>Bhh H e.list hf.list
 have p82:=Bb (cl:=ev R) fun H=>Bhi H e.scores hf.scores
 have p83:=Bb (cl:=ev R) fun H=>Bhj H e.fields hf.fields
 have x0: (e.text=[])=(e.text.isEmpty=true):=by simp
 have y1: ((e.list.length:Int)=0)=(e.list.isEmpty=true):=by cases e.list<;>simp<;>try omega
 have z1: (0< (e.list.length:Int))=(e.list.isEmpty=false):=by cases e.list<;>simp<;>try omega
 have y2: ((e.scores.length:Int)=0)=(e.scores.isEmpty=true):=by cases e.scores<;>simp<;>try omega
 have z2: (0< (e.scores.length:Int))=(e.scores.isEmpty=false):=by cases e.scores<;>simp<;>try omega
 have y3: ((e.fields.length:Int)=0)=(e.fields.isEmpty=true):=by cases e.fields<;>simp<;>try omega
 have z3: (0< (e.fields.length:Int))=(e.fields.isEmpty=false):=by cases e.fields<;>simp<;>try omega
 have l1: ((e.list.map D.str).length:Int)=(e.list.length:Int):=by simp
 have l2: ((e.scores.map Kh).length:Int)=(e.scores.length:Int):=by simp
 have l3: ((e.fields.map Kz).length:Int)=(e.fields.length:Int):=by simp
 have xl: ((e.text.length:Int)≤40)=(decide (e.text.length≤40)=true):=by simp;omega
 have ld: ∀j n,Dq (Bp H (.row 0 7 [.d (.agg [.str e.key, .int .i64 e.till, .int .i64 e.kind, .str e.text,Bf e.list,De e.scores,D7 e.fields])])) (Bc H) 0 0 j n=if j+n≤7 then some ((([.d (.str e.key), .d (.int .i64 e.till), .d (.int .i64 e.kind), .d (.str e.text), .d (Bf e.list), .d (De e.scores), .d (D7 e.fields)]:List V).drop j).take n) else none:=fun j n=>by
  simp[Dq,Cy,V.cells,D.cells]
 have tk:=Fb H (.row 0 7 [.d (.agg [.str e.key, .int .i64 e.till, .int .i64 e.kind, .str e.text,Bf e.list,De e.scores,D7 e.fields])])
 unfold Gl Mc
 unfold Jn
 simp only[Bf,De,D7] at*
 obtain⟨key,till,kind,text,list,scores,fields⟩:=e
 simp only at*
 generalize Gm key=KV at*
 generalize Ff till=TV at*
 obtain⟨Y,eY⟩: ∃Y,Bp H (.row 0 7 [.d (.agg [.str key, .int .i64 till, .int .i64 kind, .str text, .vals 1 (list.map D.str), .vals 2 (scores.map Kh), .vals 2 (fields.map Kz)])])=Y:=⟨_,rfl⟩
 rw[eY] at ld tk
 generalize list.map D.str=d1 at*
 generalize scores.map Kh=d2 at*
 generalize fields.map Kz=d3 at*
 generalize(list.length:Int)=n1 at*
 generalize(scores.length:Int)=n2 at*
 generalize(fields.length:Int)=n3 at*
 generalize Ch list=P80 at*
 generalize Gg list=P81 at*
 generalize Dj scores=P82 at*
 generalize Dm fields=P83 at*
 generalize text.isEmpty=B0 at*
 generalize list.isEmpty=B1 at*
 generalize scores.isEmpty=B2 at*
 generalize fields.isEmpty=B3 at*
 generalize decide (text.length≤40)=C at*
 cases KV with
 |false=>simp[Cm,-Cda,-Cdb,f37,eY,pk,pt,ld,tk,l1,l2,l3,xl]
 |true=>
  cases TV with
  |false=>simp[Cm,-Cda,-Cdb,f37,eY,pk,pt,ld,tk,l1,l2,l3,xl]
  |true=>simp at hk
theorem Bwz (H:Hp) (e:En) (hf:EnFit e) (hk:Gm e.key=true) (ht:Ff e.till=true) (hd:e.kind=1):ev R 37 [.d (Jn e)] H=some (.d (.bool (Gl e)),H):=by
 refine Bh (fn:=f37) rfl rfl ?_
 have pk:Be (ev R) 59 [.d (.str e.key)]=some (.d (.bool (Gm e.key))):=Bb (cl:=ev R) fun H=>Bhg H e.key
 have pt:Be (ev R) 38 [.d (.int .i64 e.till), .d (.int .i64 0), .d (.int .i64 2000000)]=some (.d (.bool (Ff e.till))):=Pt e.till 0 2000000
 have p80:=Bb (cl:=ev R) fun H=>Bfk H e.list hf.list
 have p81:=Bb (cl:=ev R) fun H=>Bhh H e.list hf.list
 have p82:=Bb (cl:=ev R) fun H=>Bhi H e.scores hf.scores
 have p83:=Bb (cl:=ev R) fun H=>Bhj H e.fields hf.fields
 have x0: (e.text=[])=(e.text.isEmpty=true):=by simp
 have y1: ((e.list.length:Int)=0)=(e.list.isEmpty=true):=by cases e.list<;>simp<;>try omega
 have z1: (0< (e.list.length:Int))=(e.list.isEmpty=false):=by cases e.list<;>simp<;>try omega
 have y2: ((e.scores.length:Int)=0)=(e.scores.isEmpty=true):=by cases e.scores<;>simp<;>try omega
 have z2: (0< (e.scores.length:Int))=(e.scores.isEmpty=false):=by cases e.scores<;>simp<;>try omega
 have y3: ((e.fields.length:Int)=0)=(e.fields.isEmpty=true):=by cases e.fields<;>simp<;>try omega
 have z3: (0< (e.fields.length:Int))=(e.fields.isEmpty=false):=by cases e.fields<;>simp<;>try omega
 have l1: ((e.list.map D.str).length:Int)=(e.list.length:Int):=by simp
 have l2: ((e.scores.map Kh).length:Int)=(e.scores.length:Int):=by simp
 have l3: ((e.fields.map Kz).length:Int)=(e.fields.length:Int):=by simp
 have xl: ((e.text.length:Int)≤40)=(decide (e.text.length≤40)=true):=by simp;omega
 have ld: ∀j n,Dq (Bp H (.row 0 7 [.d (.agg [.str e.key, .int .i64 e.till, .int .i64 e.kind, .str e.text,Bf e.list,De e.scores,D7 e.fields])])) (Bc H) 0 0 j n=if j+n≤7 then some ((([.d (.str e.key), .d (.int .i64 e.till), .d (.int .i64 e.kind), .d (.str e.text), .d (Bf e.list), .d (De e.scores), .d (D7 e.fields)]:List V).drop j).take n) else none:=fun j n=>by
  simp[Dq,Cy,V.cells,D.cells]
 have tk:=Fb H (.row 0 7 [.d (.agg [.str e.key, .int .i64 e.till, .int .i64 e.kind, .str e.text,Bf e.list,De e.scores,D7 e.fields])])
 unfold Gl Mc
 unfold Jn
 simp only[Bf,De,D7] at*
 obtain⟨key,till,kind,text,list,scores,fields⟩:=e
 simp only at*
 generalize Gm key=KV at*
 generalize Ff till=TV at*
 obtain⟨Y,eY⟩: ∃Y,Bp H (.row 0 7 [.d (.agg [.str key, .int .i64 till, .int .i64 kind, .str text, .vals 1 (list.map D.str), .vals 2 (scores.map Kh), .vals 2 (fields.map Kz)])])=Y:=⟨_,rfl⟩
 rw[eY] at ld tk
 generalize list.map D.str=d1 at*
 generalize scores.map Kh=d2 at*
 generalize fields.map Kz=d3 at*
 generalize(list.length:Int)=n1 at*
 generalize(scores.length:Int)=n2 at*
 generalize(fields.length:Int)=n3 at*
 generalize Ch list=P80 at*
 generalize Gg list=P81 at*
 generalize Dj scores=P82 at*
 generalize Dm fields=P83 at*
 generalize text.isEmpty=B0 at*
 generalize list.isEmpty=B1 at*
 generalize scores.isEmpty=B2 at*
 generalize fields.isEmpty=B3 at*
 generalize decide (text.length≤40)=C at*
 subst hk ht hd
 cases C with
 |false=>simp[Cm,-Cda,-Cdb,f37,eY,pk,pt,ld,tk,l1,l2,l3,xl,x0,y1,z1,y2,z2,y3,z3,p80,p81,p82,p83]
 |true=>
  cases B1 with
  |false=>simp[Cm,-Cda,-Cdb,f37,eY,pk,pt,ld,tk,l1,l2,l3,xl,x0,y1,z1,y2,z2,y3,z3,p80,p81,p82,p83]
  |true=>
   cases B2 with
   |false=>simp[Cm,-Cda,-Cdb,f37,eY,pk,pt,ld,tk,l1,l2,l3,xl,x0,y1,z1,y2,z2,y3,z3,p80,p81,p82,p83]
   |true=>
    cases B3 with
    |false=>simp[Cm,-Cda,-Cdb,f37,eY,pk,pt,ld,tk,l1,l2,l3,xl,x0,y1,z1,y2,z2,y3,z3,p80,p81,p82,p83]
    |true=>
     simp[Cm,-Cda,-Cdb,f37,eY,pk,pt,ld,tk,l1,l2,l3,xl,x0,y1,z1,y2,z2,y3,z3,p80,p81,p82,p83]
theorem Bw0 (H:Hp) (e:En) (hf:EnFit e) (hk:Gm e.key=true) (ht:Ff e.till=true) (hd:e.kind=2):ev R 37 [.d (Jn e)] H=some (.d (.bool (Gl e)),H):=by
 refine Bh (fn:=f37) rfl rfl ?_
 have pk:Be (ev R) 59 [.d (.str e.key)]=some (.d (.bool (Gm e.key))):=Bb (cl:=ev R) fun H=>Bhg H e.key
 have pt:Be (ev R) 38 [.d (.int .i64 e.till), .d (.int .i64 0), .d (.int .i64 2000000)]=some (.d (.bool (Ff e.till))):=Pt e.till 0 2000000
 have p80:=Bb (cl:=ev R) fun H=>Bfk H e.list hf.list
 have p81:=Bb (cl:=ev R) fun H=>Bhh H e.list hf.list
 have p82:=Bb (cl:=ev R) fun H=>Bhi H e.scores hf.scores
 have p83:=Bb (cl:=ev R) fun H=>Bhj H e.fields hf.fields
 have x0: (e.text=[])=(e.text.isEmpty=true):=by simp
 have y1: ((e.list.length:Int)=0)=(e.list.isEmpty=true):=by cases e.list<;>simp<;>try omega
 have z1: (0< (e.list.length:Int))=(e.list.isEmpty=false):=by cases e.list<;>simp<;>try omega
 have y2: ((e.scores.length:Int)=0)=(e.scores.isEmpty=true):=by cases e.scores<;>simp<;>try omega
 have z2: (0< (e.scores.length:Int))=(e.scores.isEmpty=false):=by cases e.scores<;>simp<;>try omega
 have y3: ((e.fields.length:Int)=0)=(e.fields.isEmpty=true):=by cases e.fields<;>simp<;>try omega
 have z3: (0< (e.fields.length:Int))=(e.fields.isEmpty=false):=by cases e.fields<;>simp<;>try omega
 have l1: ((e.list.map D.str).length:Int)=(e.list.length:Int):=by simp
 have l2: ((e.scores.map Kh).length:Int)=(e.scores.length:Int):=by simp
 have l3: ((e.fields.map Kz).length:Int)=(e.fields.length:Int):=by simp
 have xl: ((e.text.length:Int)≤40)=(decide (e.text.length≤40)=true):=by simp;omega
 have ld: ∀j n,Dq (Bp H (.row 0 7 [.d (.agg [.str e.key, .int .i64 e.till, .int .i64 e.kind, .str e.text,Bf e.list,De e.scores,D7 e.fields])])) (Bc H) 0 0 j n=if j+n≤7 then some ((([.d (.str e.key), .d (.int .i64 e.till), .d (.int .i64 e.kind), .d (.str e.text), .d (Bf e.list), .d (De e.scores), .d (D7 e.fields)]:List V).drop j).take n) else none:=fun j n=>by
  simp[Dq,Cy,V.cells,D.cells]
 have tk:=Fb H (.row 0 7 [.d (.agg [.str e.key, .int .i64 e.till, .int .i64 e.kind, .str e.text,Bf e.list,De e.scores,D7 e.fields])])
 unfold Gl Mc
 unfold Jn
 simp only[Bf,De,D7] at*
 obtain⟨key,till,kind,text,list,scores,fields⟩:=e
 simp only at*
 generalize Gm key=KV at*
 generalize Ff till=TV at*
 obtain⟨Y,eY⟩: ∃Y,Bp H (.row 0 7 [.d (.agg [.str key, .int .i64 till, .int .i64 kind, .str text, .vals 1 (list.map D.str), .vals 2 (scores.map Kh), .vals 2 (fields.map Kz)])])=Y:=⟨_,rfl⟩
 rw[eY] at ld tk
 generalize list.map D.str=d1 at*
 generalize scores.map Kh=d2 at*
 generalize fields.map Kz=d3 at*
 generalize(list.length:Int)=n1 at*
 generalize(scores.length:Int)=n2 at*
 generalize(fields.length:Int)=n3 at*
 generalize Ch list=P80 at*
 generalize Gg list=P81 at*
 generalize Dj scores=P82 at*
 generalize Dm fields=P83 at*
 generalize text.isEmpty=B0 at*
 generalize list.isEmpty=B1 at*
 generalize scores.isEmpty=B2 at*
 generalize fields.isEmpty=B3 at*
 generalize decide (text.length≤40)=C at*
 subst hk ht hd
 cases B0 with
 |false=>simp[Cm,-Cda,-Cdb,f37,eY,pk,pt,ld,tk,l1,l2,l3,xl,x0,y1,z1,y2,z2,y3,z3,p80,p81,p82,p83]
 |true=>
  cases B1 with
  |true=>simp[Cm,-Cda,-Cdb,f37,eY,pk,pt,ld,tk,l1,l2,l3,xl,x0,y1,z1,y2,z2,y3,z3,p80,p81,p82,p83]
  |false=>
   cases P80 with
   |false=>simp[Cm,-Cda,-Cdb,f37,eY,pk,pt,ld,tk,l1,l2,l3,xl,x0,y1,z1,y2,z2,y3,z3,p80,p81,p82,p83]
   |true=>
    cases B2 with
    |false=>simp[Cm,-Cda,-Cdb,f37,eY,pk,pt,ld,tk,l1,l2,l3,xl,x0,y1,z1,y2,z2,y3,z3,p80,p81,p82,p83]
    |true=>
     cases B3 with
     |false=>simp[Cm,-Cda,-Cdb,f37,eY,pk,pt,ld,tk,l1,l2,l3,xl,x0,y1,z1,y2,z2,y3,z3,p80,p81,p82,p83]
     |true=>
      simp[Cm,-Cda,-Cdb,f37,eY,pk,pt,ld,tk,l1,l2,l3,xl,x0,y1,z1,y2,z2,y3,z3,p80,p81,p82,p83]
theorem Bw1 (H:Hp) (e:En) (hf:EnFit e) (hk:Gm e.key=true) (ht:Ff e.till=true) (hd:e.kind=3):ev R 37 [.d (Jn e)] H=some (.d (.bool (Gl e)),H):=by
 refine Bh (fn:=f37) rfl rfl ?_
 have pk:Be (ev R) 59 [.d (.str e.key)]=some (.d (.bool (Gm e.key))):=Bb (cl:=ev R) fun H=>Bhg H e.key
 have pt:Be (ev R) 38 [.d (.int .i64 e.till), .d (.int .i64 0), .d (.int .i64 2000000)]=some (.d (.bool (Ff e.till))):=Pt e.till 0 2000000
 have p80:=Bb (cl:=ev R) fun H=>Bfk H e.list hf.list
 have p81:=Bb (cl:=ev R) fun H=>Bhh H e.list hf.list
 have p82:=Bb (cl:=ev R) fun H=>Bhi H e.scores hf.scores
 have p83:=Bb (cl:=ev R) fun H=>Bhj H e.fields hf.fields
 have x0: (e.text=[])=(e.text.isEmpty=true):=by simp
 have y1: ((e.list.length:Int)=0)=(e.list.isEmpty=true):=by cases e.list<;>simp<;>try omega
 have z1: (0< (e.list.length:Int))=(e.list.isEmpty=false):=by cases e.list<;>simp<;>try omega
 have y2: ((e.scores.length:Int)=0)=(e.scores.isEmpty=true):=by cases e.scores<;>simp<;>try omega
 have z2: (0< (e.scores.length:Int))=(e.scores.isEmpty=false):=by cases e.scores<;>simp<;>try omega
 have y3: ((e.fields.length:Int)=0)=(e.fields.isEmpty=true):=by cases e.fields<;>simp<;>try omega
 have z3: (0< (e.fields.length:Int))=(e.fields.isEmpty=false):=by cases e.fields<;>simp<;>try omega
 have l1: ((e.list.map D.str).length:Int)=(e.list.length:Int):=by simp
 have l2: ((e.scores.map Kh).length:Int)=(e.scores.length:Int):=by simp
 have l3: ((e.fields.map Kz).length:Int)=(e.fields.length:Int):=by simp
 have xl: ((e.text.length:Int)≤40)=(decide (e.text.length≤40)=true):=by simp;omega
 have ld: ∀j n,Dq (Bp H (.row 0 7 [.d (.agg [.str e.key, .int .i64 e.till, .int .i64 e.kind, .str e.text,Bf e.list,De e.scores,D7 e.fields])])) (Bc H) 0 0 j n=if j+n≤7 then some ((([.d (.str e.key), .d (.int .i64 e.till), .d (.int .i64 e.kind), .d (.str e.text), .d (Bf e.list), .d (De e.scores), .d (D7 e.fields)]:List V).drop j).take n) else none:=fun j n=>by
  simp[Dq,Cy,V.cells,D.cells]
 have tk:=Fb H (.row 0 7 [.d (.agg [.str e.key, .int .i64 e.till, .int .i64 e.kind, .str e.text,Bf e.list,De e.scores,D7 e.fields])])
 unfold Gl Mc
 unfold Jn
 simp only[Bf,De,D7] at*
 obtain⟨key,till,kind,text,list,scores,fields⟩:=e
 simp only at*
 generalize Gm key=KV at*
 generalize Ff till=TV at*
 obtain⟨Y,eY⟩: ∃Y,Bp H (.row 0 7 [.d (.agg [.str key, .int .i64 till, .int .i64 kind, .str text, .vals 1 (list.map D.str), .vals 2 (scores.map Kh), .vals 2 (fields.map Kz)])])=Y:=⟨_,rfl⟩
 rw[eY] at ld tk
 generalize list.map D.str=d1 at*
 generalize scores.map Kh=d2 at*
 generalize fields.map Kz=d3 at*
 generalize(list.length:Int)=n1 at*
 generalize(scores.length:Int)=n2 at*
 generalize(fields.length:Int)=n3 at*
 generalize Ch list=P80 at*
 generalize Gg list=P81 at*
 generalize Dj scores=P82 at*
 generalize Dm fields=P83 at*
 generalize text.isEmpty=B0 at*
 generalize list.isEmpty=B1 at*
 generalize scores.isEmpty=B2 at*
 generalize fields.isEmpty=B3 at*
 generalize decide (text.length≤40)=C at*
 subst hk ht hd
 cases B0 with
 |false=>simp[Cm,-Cda,-Cdb,f37,eY,pk,pt,ld,tk,l1,l2,l3,xl,x0,y1,z1,y2,z2,y3,z3,p80,p81,p82,p83]
 |true=>
  cases B1 with
  |true=>simp[Cm,-Cda,-Cdb,f37,eY,pk,pt,ld,tk,l1,l2,l3,xl,x0,y1,z1,y2,z2,y3,z3,p80,p81,p82,p83]
  |false=>
   cases P81 with
   |false=>simp[Cm,-Cda,-Cdb,f37,eY,pk,pt,ld,tk,l1,l2,l3,xl,x0,y1,z1,y2,z2,y3,z3,p80,p81,p82,p83]
   |true=>
    cases B2 with
    |false=>simp[Cm,-Cda,-Cdb,f37,eY,pk,pt,ld,tk,l1,l2,l3,xl,x0,y1,z1,y2,z2,y3,z3,p80,p81,p82,p83]
    |true=>
     cases B3 with
     |false=>simp[Cm,-Cda,-Cdb,f37,eY,pk,pt,ld,tk,l1,l2,l3,xl,x0,y1,z1,y2,z2,y3,z3,p80,p81,p82,p83]
     |true=>
      simp[Cm,-Cda,-Cdb,f37,eY,pk,pt,ld,tk,l1,l2,l3,xl,x0,y1,z1,y2,z2,y3,z3,p80,p81,p82,p83]
theorem Bw2 (H:Hp) (e:En) (hf:EnFit e) (hk:Gm e.key=true) (ht:Ff e.till=true) (hd:e.kind=4):ev R 37 [.d (Jn e)] H=some (.d (.bool (Gl e)),H):=by
 refine Bh (fn:=f37) rfl rfl ?_
 have pk:Be (ev R) 59 [.d (.str e.key)]=some (.d (.bool (Gm e.key))):=Bb (cl:=ev R) fun H=>Bhg H e.key
 have pt:Be (ev R) 38 [.d (.int .i64 e.till), .d (.int .i64 0), .d (.int .i64 2000000)]=some (.d (.bool (Ff e.till))):=Pt e.till 0 2000000
 have p80:=Bb (cl:=ev R) fun H=>Bfk H e.list hf.list
 have p81:=Bb (cl:=ev R) fun H=>Bhh H e.list hf.list
 have p82:=Bb (cl:=ev R) fun H=>Bhi H e.scores hf.scores
 have p83:=Bb (cl:=ev R) fun H=>Bhj H e.fields hf.fields
 have x0: (e.text=[])=(e.text.isEmpty=true):=by simp
 have y1: ((e.list.length:Int)=0)=(e.list.isEmpty=true):=by cases e.list<;>simp<;>try omega
 have z1: (0< (e.list.length:Int))=(e.list.isEmpty=false):=by cases e.list<;>simp<;>try omega
 have y2: ((e.scores.length:Int)=0)=(e.scores.isEmpty=true):=by cases e.scores<;>simp<;>try omega
 have z2: (0< (e.scores.length:Int))=(e.scores.isEmpty=false):=by cases e.scores<;>simp<;>try omega
 have y3: ((e.fields.length:Int)=0)=(e.fields.isEmpty=true):=by cases e.fields<;>simp<;>try omega
 have z3: (0< (e.fields.length:Int))=(e.fields.isEmpty=false):=by cases e.fields<;>simp<;>try omega
 have l1: ((e.list.map D.str).length:Int)=(e.list.length:Int):=by simp
 have l2: ((e.scores.map Kh).length:Int)=(e.scores.length:Int):=by simp
 have l3: ((e.fields.map Kz).length:Int)=(e.fields.length:Int):=by simp
 have xl: ((e.text.length:Int)≤40)=(decide (e.text.length≤40)=true):=by simp;omega
 have ld: ∀j n,Dq (Bp H (.row 0 7 [.d (.agg [.str e.key, .int .i64 e.till, .int .i64 e.kind, .str e.text,Bf e.list,De e.scores,D7 e.fields])])) (Bc H) 0 0 j n=if j+n≤7 then some ((([.d (.str e.key), .d (.int .i64 e.till), .d (.int .i64 e.kind), .d (.str e.text), .d (Bf e.list), .d (De e.scores), .d (D7 e.fields)]:List V).drop j).take n) else none:=fun j n=>by
  simp[Dq,Cy,V.cells,D.cells]
 have tk:=Fb H (.row 0 7 [.d (.agg [.str e.key, .int .i64 e.till, .int .i64 e.kind, .str e.text,Bf e.list,De e.scores,D7 e.fields])])
 unfold Gl Mc
 unfold Jn
 simp only[Bf,De,D7] at*
 obtain⟨key,till,kind,text,list,scores,fields⟩:=e
 simp only at*
 generalize Gm key=KV at*
 generalize Ff till=TV at*
 obtain⟨Y,eY⟩: ∃Y,Bp H (.row 0 7 [.d (.agg [.str key, .int .i64 till, .int .i64 kind, .str text, .vals 1 (list.map D.str), .vals 2 (scores.map Kh), .vals 2 (fields.map Kz)])])=Y:=⟨_,rfl⟩
 rw[eY] at ld tk
 generalize list.map D.str=d1 at*
 generalize scores.map Kh=d2 at*
 generalize fields.map Kz=d3 at*
 generalize(list.length:Int)=n1 at*
 generalize(scores.length:Int)=n2 at*
 generalize(fields.length:Int)=n3 at*
 generalize Ch list=P80 at*
 generalize Gg list=P81 at*
 generalize Dj scores=P82 at*
 generalize Dm fields=P83 at*
 generalize text.isEmpty=B0 at*
 generalize list.isEmpty=B1 at*
 generalize scores.isEmpty=B2 at*
 generalize fields.isEmpty=B3 at*
 generalize decide (text.length≤40)=C at*
 subst hk ht hd
 cases B0 with
 |false=>simp[Cm,-Cda,-Cdb,f37,eY,pk,pt,ld,tk,l1,l2,l3,xl,x0,y1,z1,y2,z2,y3,z3,p80,p81,p82,p83]
 |true=>
  cases B1 with
  |false=>simp[Cm,-Cda,-Cdb,f37,eY,pk,pt,ld,tk,l1,l2,l3,xl,x0,y1,z1,y2,z2,y3,z3,p80,p81,p82,p83]
  |true=>
   cases B2 with
   |true=>simp[Cm,-Cda,-Cdb,f37,eY,pk,pt,ld,tk,l1,l2,l3,xl,x0,y1,z1,y2,z2,y3,z3,p80,p81,p82,p83]
   |false=>
    cases P82 with
    |false=>simp[Cm,-Cda,-Cdb,f37,eY,pk,pt,ld,tk,l1,l2,l3,xl,x0,y1,z1,y2,z2,y3,z3,p80,p81,p82,p83]
    |true=>
     cases B3 with
     |false=>simp[Cm,-Cda,-Cdb,f37,eY,pk,pt,ld,tk,l1,l2,l3,xl,x0,y1,z1,y2,z2,y3,z3,p80,p81,p82,p83]
     |true=>
      simp[Cm,-Cda,-Cdb,f37,eY,pk,pt,ld,tk,l1,l2,l3,xl,x0,y1,z1,y2,z2,y3,z3,p80,p81,p82,p83]
theorem Bw3 (H:Hp) (e:En) (hf:EnFit e) (hk:Gm e.key=true) (ht:Ff e.till=true) (hd:e.kind=5):ev R 37 [.d (Jn e)] H=some (.d (.bool (Gl e)),H):=by
 refine Bh (fn:=f37) rfl rfl ?_
 have pk:Be (ev R) 59 [.d (.str e.key)]=some (.d (.bool (Gm e.key))):=Bb (cl:=ev R) fun H=>Bhg H e.key
 have pt:Be (ev R) 38 [.d (.int .i64 e.till), .d (.int .i64 0), .d (.int .i64 2000000)]=some (.d (.bool (Ff e.till))):=Pt e.till 0 2000000
 have p80:=Bb (cl:=ev R) fun H=>Bfk H e.list hf.list
 have p81:=Bb (cl:=ev R) fun H=>Bhh H e.list hf.list
 have p82:=Bb (cl:=ev R) fun H=>Bhi H e.scores hf.scores
 have p83:=Bb (cl:=ev R) fun H=>Bhj H e.fields hf.fields
 have x0: (e.text=[])=(e.text.isEmpty=true):=by simp
 have y1: ((e.list.length:Int)=0)=(e.list.isEmpty=true):=by cases e.list<;>simp<;>try omega
 have z1: (0< (e.list.length:Int))=(e.list.isEmpty=false):=by cases e.list<;>simp<;>try omega
 have y2: ((e.scores.length:Int)=0)=(e.scores.isEmpty=true):=by cases e.scores<;>simp<;>try omega
 have z2: (0< (e.scores.length:Int))=(e.scores.isEmpty=false):=by cases e.scores<;>simp<;>try omega
 have y3: ((e.fields.length:Int)=0)=(e.fields.isEmpty=true):=by cases e.fields<;>simp<;>try omega
 have z3: (0< (e.fields.length:Int))=(e.fields.isEmpty=false):=by cases e.fields<;>simp<;>try omega
 have l1: ((e.list.map D.str).length:Int)=(e.list.length:Int):=by simp
 have l2: ((e.scores.map Kh).length:Int)=(e.scores.length:Int):=by simp
 have l3: ((e.fields.map Kz).length:Int)=(e.fields.length:Int):=by simp
 have xl: ((e.text.length:Int)≤40)=(decide (e.text.length≤40)=true):=by simp;omega
 have ld: ∀j n,Dq (Bp H (.row 0 7 [.d (.agg [.str e.key, .int .i64 e.till, .int .i64 e.kind, .str e.text,Bf e.list,De e.scores,D7 e.fields])])) (Bc H) 0 0 j n=if j+n≤7 then some ((([.d (.str e.key), .d (.int .i64 e.till), .d (.int .i64 e.kind), .d (.str e.text), .d (Bf e.list), .d (De e.scores), .d (D7 e.fields)]:List V).drop j).take n) else none:=fun j n=>by
  simp[Dq,Cy,V.cells,D.cells]
 have tk:=Fb H (.row 0 7 [.d (.agg [.str e.key, .int .i64 e.till, .int .i64 e.kind, .str e.text,Bf e.list,De e.scores,D7 e.fields])])
 unfold Gl Mc
 unfold Jn
 simp only[Bf,De,D7] at*
 obtain⟨key,till,kind,text,list,scores,fields⟩:=e
 simp only at*
 generalize Gm key=KV at*
 generalize Ff till=TV at*
 obtain⟨Y,eY⟩: ∃Y,Bp H (.row 0 7 [.d (.agg [.str key, .int .i64 till, .int .i64 kind, .str text, .vals 1 (list.map D.str), .vals 2 (scores.map Kh), .vals 2 (fields.map Kz)])])=Y:=⟨_,rfl⟩
 rw[eY] at ld tk
 generalize list.map D.str=d1 at*
 generalize scores.map Kh=d2 at*
 generalize fields.map Kz=d3 at*
 generalize(list.length:Int)=n1 at*
 generalize(scores.length:Int)=n2 at*
 generalize(fields.length:Int)=n3 at*
 generalize Ch list=P80 at*
 generalize Gg list=P81 at*
 generalize Dj scores=P82 at*
 generalize Dm fields=P83 at*
 generalize text.isEmpty=B0 at*
 generalize list.isEmpty=B1 at*
 generalize scores.isEmpty=B2 at*
 generalize fields.isEmpty=B3 at*
 generalize decide (text.length≤40)=C at*
 subst hk ht hd
 cases B0 with
 |false=>simp[Cm,-Cda,-Cdb,f37,eY,pk,pt,ld,tk,l1,l2,l3,xl,x0,y1,z1,y2,z2,y3,z3,p80,p81,p82,p83]
 |true=>
  cases B1 with
  |false=>simp[Cm,-Cda,-Cdb,f37,eY,pk,pt,ld,tk,l1,l2,l3,xl,x0,y1,z1,y2,z2,y3,z3,p80,p81,p82,p83]
  |true=>
   cases B2 with
   |false=>simp[Cm,-Cda,-Cdb,f37,eY,pk,pt,ld,tk,l1,l2,l3,xl,x0,y1,z1,y2,z2,y3,z3,p80,p81,p82,p83]
   |true=>
    cases B3 with
    |true=>simp[Cm,-Cda,-Cdb,f37,eY,pk,pt,ld,tk,l1,l2,l3,xl,x0,y1,z1,y2,z2,y3,z3,p80,p81,p82,p83]
    |false=>
     cases P83 with
     |false=>simp[Cm,-Cda,-Cdb,f37,eY,pk,pt,ld,tk,l1,l2,l3,xl,x0,y1,z1,y2,z2,y3,z3,p80,p81,p82,p83]
     |true=>
      simp[Cm,-Cda,-Cdb,f37,eY,pk,pt,ld,tk,l1,l2,l3,xl,x0,y1,z1,y2,z2,y3,z3,p80,p81,p82,p83]
theorem Bwy (H:Hp) (e:En) (hf:EnFit e) (hk:Gm e.key=true) (ht:Ff e.till=true) (a1: ¬e.kind=1) (a2: ¬e.kind=2) (a3: ¬e.kind=3) (a4: ¬e.kind=4) (a5: ¬e.kind=5):ev R 37 [.d (Jn e)] H=some (.d (.bool (Gl e)),H):=by
 refine Bh (fn:=f37) rfl rfl ?_
 have pk:Be (ev R) 59 [.d (.str e.key)]=some (.d (.bool (Gm e.key))):=Bb (cl:=ev R) fun H=>Bhg H e.key
 have pt:Be (ev R) 38 [.d (.int .i64 e.till), .d (.int .i64 0), .d (.int .i64 2000000)]=some (.d (.bool (Ff e.till))):=Pt e.till 0 2000000
 have p80:=Bb (cl:=ev R) fun H=>Bfk H e.list hf.list
 have p81:=Bb (cl:=ev R) fun H=>Bhh H e.list hf.list
 have p82:=Bb (cl:=ev R) fun H=>Bhi H e.scores hf.scores
 have p83:=Bb (cl:=ev R) fun H=>Bhj H e.fields hf.fields
 have x0: (e.text=[])=(e.text.isEmpty=true):=by simp
 have y1: ((e.list.length:Int)=0)=(e.list.isEmpty=true):=by cases e.list<;>simp<;>try omega
 have z1: (0< (e.list.length:Int))=(e.list.isEmpty=false):=by cases e.list<;>simp<;>try omega
 have y2: ((e.scores.length:Int)=0)=(e.scores.isEmpty=true):=by cases e.scores<;>simp<;>try omega
 have z2: (0< (e.scores.length:Int))=(e.scores.isEmpty=false):=by cases e.scores<;>simp<;>try omega
 have y3: ((e.fields.length:Int)=0)=(e.fields.isEmpty=true):=by cases e.fields<;>simp<;>try omega
 have z3: (0< (e.fields.length:Int))=(e.fields.isEmpty=false):=by cases e.fields<;>simp<;>try omega
 have l1: ((e.list.map D.str).length:Int)=(e.list.length:Int):=by simp
 have l2: ((e.scores.map Kh).length:Int)=(e.scores.length:Int):=by simp
 have l3: ((e.fields.map Kz).length:Int)=(e.fields.length:Int):=by simp
 have xl: ((e.text.length:Int)≤40)=(decide (e.text.length≤40)=true):=by simp;omega
 have ld: ∀j n,Dq (Bp H (.row 0 7 [.d (.agg [.str e.key, .int .i64 e.till, .int .i64 e.kind, .str e.text,Bf e.list,De e.scores,D7 e.fields])])) (Bc H) 0 0 j n=if j+n≤7 then some ((([.d (.str e.key), .d (.int .i64 e.till), .d (.int .i64 e.kind), .d (.str e.text), .d (Bf e.list), .d (De e.scores), .d (D7 e.fields)]:List V).drop j).take n) else none:=fun j n=>by
  simp[Dq,Cy,V.cells,D.cells]
 have tk:=Fb H (.row 0 7 [.d (.agg [.str e.key, .int .i64 e.till, .int .i64 e.kind, .str e.text,Bf e.list,De e.scores,D7 e.fields])])
 unfold Gl Mc
 unfold Jn
 simp only[Bf,De,D7] at*
 obtain⟨key,till,kind,text,list,scores,fields⟩:=e
 simp only at*
 generalize Gm key=KV at*
 generalize Ff till=TV at*
 obtain⟨Y,eY⟩: ∃Y,Bp H (.row 0 7 [.d (.agg [.str key, .int .i64 till, .int .i64 kind, .str text, .vals 1 (list.map D.str), .vals 2 (scores.map Kh), .vals 2 (fields.map Kz)])])=Y:=⟨_,rfl⟩
 rw[eY] at ld tk
 generalize list.map D.str=d1 at*
 generalize scores.map Kh=d2 at*
 generalize fields.map Kz=d3 at*
 generalize(list.length:Int)=n1 at*
 generalize(scores.length:Int)=n2 at*
 generalize(fields.length:Int)=n3 at*
 generalize Ch list=P80 at*
 generalize Gg list=P81 at*
 generalize Dj scores=P82 at*
 generalize Dm fields=P83 at*
 generalize text.isEmpty=B0 at*
 generalize list.isEmpty=B1 at*
 generalize scores.isEmpty=B2 at*
 generalize fields.isEmpty=B3 at*
 generalize decide (text.length≤40)=C at*
 subst hk ht
 simp[Cm,-Cda,-Cdb,f37,eY,pk,pt,ld,tk,l1,l2,l3,xl,x0,y1,z1,y2,z2,y3,z3,a1,a2,a3,a4,a5]
theorem B3b (H:Hp) (e:En) (hf:EnFit e):ev R 37 [.d (Jn e)] H=some (.d (.bool (Gl e)),H):=by
 cases hk:Gm e.key with
 |false=>exact Bm9 H e hf (.inl hk)
 |true=>
  cases ht:Ff e.till with
  |false=>exact Bm9 H e hf (.inr ht)
  |true=>
   by_cases a1:e.kind=1
   ·exact Bwz H e hf hk ht a1
   by_cases a2:e.kind=2
   ·exact Bw0 H e hf hk ht a2
   by_cases a3:e.kind=3
   ·exact Bw1 H e hf hk ht a3
   by_cases a4:e.kind=4
   ·exact Bw2 H e hf hk ht a4
   by_cases a5:e.kind=5
   ·exact Bw3 H e hf hk ht a5
   exact Bwy H e hf hk ht a1 a2 a3 a4 a5
end Go.Proofs.YtpajcoanfkeibaaGreatDoor.Code
