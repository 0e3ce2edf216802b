/- Lemmas (several texts in one). -/
import Derived.Test.YtpajcoanfkeibaaGreatDoorMDoKind6
import Derived.Test.YtpajcoanfkeibaaGreatDoorMDoKind12
import Derived.Test.YtpajcoanfkeibaaGreatDoorMDoKind14
set_option maxRecDepth 100000
set_option linter.unusedSimpArgs false
set_option linter.unusedVariables false
open List renaming getD_eq_getElem?_getD → Cda, map_map → Cdb, getElem?_eq_getElem → Cdh, take_length → Cdm
namespace Go.Proofs.YtpajcoanfkeibaaGreatDoor.Code
open Go Go.Ev Go.Proofs
theorem Bna (H:Hp) (e:En) (hf:EnFit e) (hk:Gm e.key=false∨Ff e.till=false):ev R 49 [.d (Jn e)] H=some (.d (.bool (Gl e)),H):=by
 refine Bh (fn:=f49) rfl rfl ?_
 have pk:Be (ev R) 57 [.d (.str e.key)]=some (.d (.bool (Gm e.key))):=Bb (cl:=ev R) fun H=>Bfj H e.key
 have pt:Be (ev R) 48 [.d (.int .i64 e.till), .d (.int .i64 0), .d (.int .i64 2000000)]=some (.d (.bool (Ff e.till))):=Bck e.till 0 2000000
 have p80:=Bb (cl:=ev R) fun H=>Bhk H e.list hf.list
 have p81:=Bb (cl:=ev R) fun H=>Bkl H e.list hf.list
 have p82:=Bb (cl:=ev R) fun H=>Bkm H e.scores hf.scores
 have p83:=Bb (cl:=ev R) fun H=>Bkn H e.fields hf.fields
 have x0: (e.text=[])=(e.text.isEmpty=true):=by simp
 have y1: ((e.list.length:Int)=0)=(e.list.isEmpty=true):=by cases e.list<;>simp<;>try omega
 have z1: (0< (e.list.length:Int))=(e.list.isEmpty=false):=by cases e.list<;>simp<;>try omega
 have y2: ((e.scores.length:Int)=0)=(e.scores.isEmpty=true):=by cases e.scores<;>simp<;>try omega
 have z2: (0< (e.scores.length:Int))=(e.scores.isEmpty=false):=by cases e.scores<;>simp<;>try omega
 have y3: ((e.fields.length:Int)=0)=(e.fields.isEmpty=true):=by cases e.fields<;>simp<;>try omega
 have z3: (0< (e.fields.length:Int))=(e.fields.isEmpty=false):=by cases e.fields<;>simp<;>try omega
 have l1: ((e.list.map D.str).length:Int)=(e.list.length:Int):=by simp
 have l2: ((e.scores.map Kh).length:Int)=(e.scores.length:Int):=by simp
 have l3: ((e.fields.map Kz).length:Int)=(e.fields.length:Int):=by simp
 have xl: ((e.text.length:Int)≤40)=(decide (e.text.length≤40)=true):=by simp;omega
 have ld: ∀j n,Dq (Bp H (.row 0 7 [.d (.agg [.str e.key, .int .i64 e.till, .int .i64 e.kind, .str e.text,Bf e.list,De e.scores,D7 e.fields])])) (Bc H) 0 0 j n=if j+n≤7 then some ((([.d (.str e.key), .d (.int .i64 e.till), .d (.int .i64 e.kind), .d (.str e.text), .d (Bf e.list), .d (De e.scores), .d (D7 e.fields)]:List V).drop j).take n) else none:=fun j n=>by
  simp[Dq,Cy,V.cells,D.cells]
 have tk:=Fb H (.row 0 7 [.d (.agg [.str e.key, .int .i64 e.till, .int .i64 e.kind, .str e.text,Bf e.list,De e.scores,D7 e.fields])])
 unfold Gl Mc
 unfold Jn
 simp only[Bf,De,D7] at*
 obtain⟨key,till,kind,text,list,scores,fields⟩:=e
 simp only at*
 generalize Gm key=KV at*
 generalize Ff till=TV at*
 obtain⟨Y,eY⟩: ∃Y,Bp H (.row 0 7 [.d (.agg [.str key, .int .i64 till, .int .i64 kind, .str text, .vals 1 (list.map D.str), .vals 2 (scores.map Kh), .vals 2 (fields.map Kz)])])=Y:=⟨_,rfl⟩
 rw[eY] at ld tk
 generalize list.map D.str=d1 at*
 generalize scores.map Kh=d2 at*
 generalize fields.map Kz=d3 at*
 generalize(list.length:Int)=n1 at*
 generalize(scores.length:Int)=n2 at*
 generalize(fields.length:Int)=n3 at*
 generalize Ch list=P80 at*
 generalize Gg list=P81 at*
 generalize Dj scores=P82 at*
 generalize Dm fields=P83 at*
 generalize text.isEmpty=B0 at*
 generalize list.isEmpty=B1 at*
 generalize scores.isEmpty=B2 at*
 generalize fields.isEmpty=B3 at*
 generalize decide (text.length≤40)=C at*
 cases KV with
 |false=>simp[Cm,-Cda,-Cdb,f49,eY,pk,pt,ld,tk,l1,l2,l3,xl]
 |true=>
  cases TV with
  |false=>simp[Cm,-Cda,-Cdb,f49,eY,pk,pt,ld,tk,l1,l2,l3,xl]
  |true=>simp at hk
set_option maxHeartbeats 800000 in
theorem Bw6 (H:Hp) (e:En) (hf:EnFit e) (hk:Gm e.key=true) (ht:Ff e.till=true) (hd:e.kind=1):ev R 49 [.d (Jn e)] H=some (.d (.bool (Gl e)),H):=by
 refine Bh (fn:=f49) rfl rfl ?_
 have pk:Be (ev R) 57 [.d (.str e.key)]=some (.d (.bool (Gm e.key))):=Bb (cl:=ev R) fun H=>Bfj H e.key
 have pt:Be (ev R) 48 [.d (.int .i64 e.till), .d (.int .i64 0), .d (.int .i64 2000000)]=some (.d (.bool (Ff e.till))):=Bck e.till 0 2000000
 have p80:=Bb (cl:=ev R) fun H=>Bhk H e.list hf.list
 have p81:=Bb (cl:=ev R) fun H=>Bkl H e.list hf.list
 have p82:=Bb (cl:=ev R) fun H=>Bkm H e.scores hf.scores
 have p83:=Bb (cl:=ev R) fun H=>Bkn H e.fields hf.fields
 have x0: (e.text=[])=(e.text.isEmpty=true):=by simp
 have y1: ((e.list.length:Int)=0)=(e.list.isEmpty=true):=by cases e.list<;>simp<;>try omega
 have z1: (0< (e.list.length:Int))=(e.list.isEmpty=false):=by cases e.list<;>simp<;>try omega
 have y2: ((e.scores.length:Int)=0)=(e.scores.isEmpty=true):=by cases e.scores<;>simp<;>try omega
 have z2: (0< (e.scores.length:Int))=(e.scores.isEmpty=false):=by cases e.scores<;>simp<;>try omega
 have y3: ((e.fields.length:Int)=0)=(e.fields.isEmpty=true):=by cases e.fields<;>simp<;>try omega
 have z3: (0< (e.fields.length:Int))=(e.fields.isEmpty=false):=by cases e.fields<;>simp<;>try omega
 have l1: ((e.list.map D.str).length:Int)=(e.list.length:Int):=by simp
 have l2: ((e.scores.map Kh).length:Int)=(e.scores.length:Int):=by simp
 have l3: ((e.fields.map Kz).length:Int)=(e.fields.length:Int):=by simp
 have xl: ((e.text.length:Int)≤40)=(decide (e.text.length≤40)=true):=by simp;omega
 have ld: ∀j n,Dq (Bp H (.row 0 7 [.d (.agg [.str e.key, .int .i64 e.till, .int .i64 e.kind, .str e.text,Bf e.list,De e.scores,D7 e.fields])])) (Bc H) 0 0 j n=if j+n≤7 then some ((([.d (.str e.key), .d (.int .i64 e.till), .d (.int .i64 e.kind), .d (.str e.text), .d (Bf e.list), .d (De e.scores), .d (D7 e.fields)]:List V).drop j).take n) else none:=fun j n=>by
  simp[Dq,Cy,V.cells,D.cells]
 have tk:=Fb H (.row 0 7 [.d (.agg [.str e.key, .int .i64 e.till, .int .i64 e.kind, .str e.text,Bf e.list,De e.scores,D7 e.fields])])
 unfold Gl Mc
 unfold Jn
 simp only[Bf,De,D7] at*
 obtain⟨key,till,kind,text,list,scores,fields⟩:=e
 simp only at*
 generalize Gm key=KV at*
 generalize Ff till=TV at*
 obtain⟨Y,eY⟩: ∃Y,Bp H (.row 0 7 [.d (.agg [.str key, .int .i64 till, .int .i64 kind, .str text, .vals 1 (list.map D.str), .vals 2 (scores.map Kh), .vals 2 (fields.map Kz)])])=Y:=⟨_,rfl⟩
 rw[eY] at ld tk
 generalize list.map D.str=d1 at*
 generalize scores.map Kh=d2 at*
 generalize fields.map Kz=d3 at*
 generalize(list.length:Int)=n1 at*
 generalize(scores.length:Int)=n2 at*
 generalize(fields.length:Int)=n3 at*
 generalize Ch list=P80 at*
 generalize Gg list=P81 at*
 generalize Dj scores=P82 at*
 generalize Dm fields=P83 at*
 generalize text.isEmpty=B0 at*
 generalize list.isEmpty=B1 at*
 generalize scores.isEmpty=B2 at*
 generalize fields.isEmpty=B3 at*
 generalize decide (text.length≤40)=C at*
 subst hk ht hd
 cases C with
 |false=>simp[Cm,-Cda,-Cdb,f49,eY,pk,pt,ld,tk,l1,l2,l3,xl,x0,y1,z1,y2,z2,y3,z3]
 |true=>
  cases B1 with
  |false=>simp[Cm,-Cda,-Cdb,f49,eY,pk,pt,ld,tk,l1,l2,l3,xl,x0,y1,z1,y2,z2,y3,z3]
  |true=>
   cases B2 with
   |false=>simp[Cm,-Cda,-Cdb,f49,eY,pk,pt,ld,tk,l1,l2,l3,xl,x0,y1,z1,y2,z2,y3,z3]
   |true=>
    cases B3 with
    |false=>simp[Cm,-Cda,-Cdb,f49,eY,pk,pt,ld,tk,l1,l2,l3,xl,x0,y1,z1,y2,z2,y3,z3]
    |true=>
     simp[Cm,-Cda,-Cdb,f49,eY,pk,pt,ld,tk,l1,l2,l3,xl,x0,y1,z1,y2,z2,y3,z3]
set_option maxHeartbeats 800000 in
theorem Bw7 (H:Hp) (e:En) (hf:EnFit e) (hk:Gm e.key=true) (ht:Ff e.till=true) (hd:e.kind=2):ev R 49 [.d (Jn e)] H=some (.d (.bool (Gl e)),H):=by
 refine Bh (fn:=f49) rfl rfl ?_
 have pk:Be (ev R) 57 [.d (.str e.key)]=some (.d (.bool (Gm e.key))):=Bb (cl:=ev R) fun H=>Bfj H e.key
 have pt:Be (ev R) 48 [.d (.int .i64 e.till), .d (.int .i64 0), .d (.int .i64 2000000)]=some (.d (.bool (Ff e.till))):=Bck e.till 0 2000000
 have p80:=Bb (cl:=ev R) fun H=>Bhk H e.list hf.list
 have p81:=Bb (cl:=ev R) fun H=>Bkl H e.list hf.list
 have p82:=Bb (cl:=ev R) fun H=>Bkm H e.scores hf.scores
 have p83:=Bb (cl:=ev R) fun H=>Bkn H e.fields hf.fields
 have x0: (e.text=[])=(e.text.isEmpty=true):=by simp
 have y1: ((e.list.length:Int)=0)=(e.list.isEmpty=true):=by cases e.list<;>simp<;>try omega
 have z1: (0< (e.list.length:Int))=(e.list.isEmpty=false):=by cases e.list<;>simp<;>try omega
 have y2: ((e.scores.length:Int)=0)=(e.scores.isEmpty=true):=by cases e.scores<;>simp<;>try omega
 have z2: (0< (e.scores.length:Int))=(e.scores.isEmpty=false):=by cases e.scores<;>simp<;>try omega
 have y3: ((e.fields.length:Int)=0)=(e.fields.isEmpty=true):=by cases e.fields<;>simp<;>try omega
 have z3: (0< (e.fields.length:Int))=(e.fields.isEmpty=false):=by cases e.fields<;>simp<;>try omega
 have l1: ((e.list.map D.str).length:Int)=(e.list.length:Int):=by simp
 have l2: ((e.scores.map Kh).length:Int)=(e.scores.length:Int):=by simp
 have l3: ((e.fields.map Kz).length:Int)=(e.fields.length:Int):=by simp
 have xl: ((e.text.length:Int)≤40)=(decide (e.text.length≤40)=true):=by simp;omega
 have ld: ∀j n,Dq (Bp H (.row 0 7 [.d (.agg [.str e.key, .int .i64 e.till, .int .i64 e.kind, .str e.text,Bf e.list,De e.scores,D7 e.fields])])) (Bc H) 0 0 j n=if j+n≤7 then some ((([.d (.str e.key), .d (.int .i64 e.till), .d (.int .i64 e.kind), .d (.str e.text), .d (Bf e.list), .d (De e.scores), .d (D7 e.fields)]:List V).drop j).take n) else none:=fun j n=>by
  simp[Dq,Cy,V.cells,D.cells]
 have tk:=Fb H (.row 0 7 [.d (.agg [.str e.key, .int .i64 e.till, .int .i64 e.kind, .str e.text,Bf e.list,De e.scores,D7 e.fields])])
 unfold Gl Mc
 unfold Jn
 simp only[Bf,De,D7] at*
 obtain⟨key,till,kind,text,list,scores,fields⟩:=e
 simp only at*
 generalize Gm key=KV at*
 generalize Ff till=TV at*
 obtain⟨Y,eY⟩: ∃Y,Bp H (.row 0 7 [.d (.agg [.str key, .int .i64 till, .int .i64 kind, .str text, .vals 1 (list.map D.str), .vals 2 (scores.map Kh), .vals 2 (fields.map Kz)])])=Y:=⟨_,rfl⟩
 rw[eY] at ld tk
 generalize list.map D.str=d1 at*
 generalize scores.map Kh=d2 at*
 generalize fields.map Kz=d3 at*
 generalize(list.length:Int)=n1 at*
 generalize(scores.length:Int)=n2 at*
 generalize(fields.length:Int)=n3 at*
 generalize Ch list=P80 at*
 generalize Gg list=P81 at*
 generalize Dj scores=P82 at*
 generalize Dm fields=P83 at*
 generalize text.isEmpty=B0 at*
 generalize list.isEmpty=B1 at*
 generalize scores.isEmpty=B2 at*
 generalize fields.isEmpty=B3 at*
 generalize decide (text.length≤40)=C at*
 subst hk ht hd
 cases B1 with
 |true=>simp[Cm,-Cda,-Cdb,f49,eY,pk,pt,ld,tk,l1,l2,l3,xl,x0,y1,z1,y2,z2,y3,z3,p80]
 |false=>
  cases P80 with
  |false=>simp[Cm,-Cda,-Cdb,f49,eY,pk,pt,ld,tk,l1,l2,l3,xl,x0,y1,z1,y2,z2,y3,z3,p80]
  |true=>
   cases B0 with
   |false=>simp[Cm,-Cda,-Cdb,f49,eY,pk,pt,ld,tk,l1,l2,l3,xl,x0,y1,z1,y2,z2,y3,z3,p80]
   |true=>
    cases B2 with
    |false=>simp[Cm,-Cda,-Cdb,f49,eY,pk,pt,ld,tk,l1,l2,l3,xl,x0,y1,z1,y2,z2,y3,z3,p80]
    |true=>
     cases B3 with
     |false=>simp[Cm,-Cda,-Cdb,f49,eY,pk,pt,ld,tk,l1,l2,l3,xl,x0,y1,z1,y2,z2,y3,z3,p80]
     |true=>
      simp[Cm,-Cda,-Cdb,f49,eY,pk,pt,ld,tk,l1,l2,l3,xl,x0,y1,z1,y2,z2,y3,z3,p80]
set_option maxHeartbeats 800000 in
theorem Bw8 (H:Hp) (e:En) (hf:EnFit e) (hk:Gm e.key=true) (ht:Ff e.till=true) (hd:e.kind=3):ev R 49 [.d (Jn e)] H=some (.d (.bool (Gl e)),H):=by
 refine Bh (fn:=f49) rfl rfl ?_
 have pk:Be (ev R) 57 [.d (.str e.key)]=some (.d (.bool (Gm e.key))):=Bb (cl:=ev R) fun H=>Bfj H e.key
 have pt:Be (ev R) 48 [.d (.int .i64 e.till), .d (.int .i64 0), .d (.int .i64 2000000)]=some (.d (.bool (Ff e.till))):=Bck e.till 0 2000000
 have p80:=Bb (cl:=ev R) fun H=>Bhk H e.list hf.list
 have p81:=Bb (cl:=ev R) fun H=>Bkl H e.list hf.list
 have p82:=Bb (cl:=ev R) fun H=>Bkm H e.scores hf.scores
 have p83:=Bb (cl:=ev R) fun H=>Bkn H e.fields hf.fields
 have x0: (e.text=[])=(e.text.isEmpty=true):=by simp
 have y1: ((e.list.length:Int)=0)=(e.list.isEmpty=true):=by cases e.list<;>simp<;>try omega
 have z1: (0< (e.list.length:Int))=(e.list.isEmpty=false):=by cases e.list<;>simp<;>try omega
 have y2: ((e.scores.length:Int)=0)=(e.scores.isEmpty=true):=by cases e.scores<;>simp<;>try omega
 have z2: (0< (e.scores.length:Int))=(e.scores.isEmpty=false):=by cases e.scores<;>simp<;>try omega
 have y3: ((e.fields.length:Int)=0)=(e.fields.isEmpty=true):=by cases e.fields<;>simp<;>try omega
 have z3: (0< (e.fields.length:Int))=(e.fields.isEmpty=false):=by cases e.fields<;>simp<;>try omega
 have l1: ((e.list.map D.str).length:Int)=(e.list.length:Int):=by simp
 have l2: ((e.scores.map Kh).length:Int)=(e.scores.length:Int):=by simp
 have l3: ((e.fields.map Kz).length:Int)=(e.fields.length:Int):=by simp
 have xl: ((e.text.length:Int)≤40)=(decide (e.text.length≤40)=true):=by simp;omega
 have ld: ∀j n,Dq (Bp H (.row 0 7 [.d (.agg [.str e.key, .int .i64 e.till, .int .i64 e.kind, .str e.text,Bf e.list,De e.scores,D7 e.fields])])) (Bc H) 0 0 j n=if j+n≤7 then some ((([.d (.str e.key), .d (.int .i64 e.till), .d (.int .i64 e.kind), .d (.str e.text), .d (Bf e.list), .d (De e.scores), .d (D7 e.fields)]:List V).drop j).take n) else none:=fun j n=>by
  simp[Dq,Cy,V.cells,D.cells]
 have tk:=Fb H (.row 0 7 [.d (.agg [.str e.key, .int .i64 e.till, .int .i64 e.kind, .str e.text,Bf e.list,De e.scores,D7 e.fields])])
 unfold Gl Mc
 unfold Jn
 simp only[Bf,De,D7] at*
 obtain⟨key,till,kind,text,list,scores,fields⟩:=e
 simp only at*
 generalize Gm key=KV at*
 generalize Ff till=TV at*
 obtain⟨Y,eY⟩: ∃Y,Bp H (.row 0 7 [.d (.agg [.str key, .int .i64 till, .int .i64 kind, .str text, .vals 1 (list.map D.str), .vals 2 (scores.map Kh), .vals 2 (fields.map Kz)])])=Y:=⟨_,rfl⟩
 rw[eY] at ld tk
 generalize list.map D.str=d1 at*
 generalize scores.map Kh=d2 at*
 generalize fields.map Kz=d3 at*
 generalize(list.length:Int)=n1 at*
 generalize(scores.length:Int)=n2 at*
 generalize(fields.length:Int)=n3 at*
 generalize Ch list=P80 at*
 generalize Gg list=P81 at*
 generalize Dj scores=P82 at*
 generalize Dm fields=P83 at*
 generalize text.isEmpty=B0 at*
 generalize list.isEmpty=B1 at*
 generalize scores.isEmpty=B2 at*
 generalize fields.isEmpty=B3 at*
 generalize decide (text.length≤40)=C at*
 subst hk ht hd
 cases B1 with
 |true=>simp[Cm,-Cda,-Cdb,f49,eY,pk,pt,ld,tk,l1,l2,l3,xl,x0,y1,z1,y2,z2,y3,z3,p81]
 |false=>
  cases P81 with
  |false=>simp[Cm,-Cda,-Cdb,f49,eY,pk,pt,ld,tk,l1,l2,l3,xl,x0,y1,z1,y2,z2,y3,z3,p81]
  |true=>
   cases B0 with
   |false=>simp[Cm,-Cda,-Cdb,f49,eY,pk,pt,ld,tk,l1,l2,l3,xl,x0,y1,z1,y2,z2,y3,z3,p81]
   |true=>
    cases B2 with
    |false=>simp[Cm,-Cda,-Cdb,f49,eY,pk,pt,ld,tk,l1,l2,l3,xl,x0,y1,z1,y2,z2,y3,z3,p81]
    |true=>
     cases B3 with
     |false=>simp[Cm,-Cda,-Cdb,f49,eY,pk,pt,ld,tk,l1,l2,l3,xl,x0,y1,z1,y2,z2,y3,z3,p81]
     |true=>
      simp[Cm,-Cda,-Cdb,f49,eY,pk,pt,ld,tk,l1,l2,l3,xl,x0,y1,z1,y2,z2,y3,z3,p81]
set_option maxHeartbeats 800000 in
theorem Bw9 (H:Hp) (e:En) (hf:EnFit e) (hk:Gm e.key=true) (ht:Ff e.till=true) (hd:e.kind=4):ev R 49 [.d (Jn e)] H=some (.d (.bool (Gl e)),H):=by
 refine Bh (fn:=f49) rfl rfl ?_
 have pk:Be (ev R) 57 [.d (.str e.key)]=some (.d (.bool (Gm e.key))):=Bb (cl:=ev R) fun H=>Bfj H e.key
 have pt:Be (ev R) 48 [.d (.int .i64 e.till), .d (.int .i64 0), .d (.int .i64 2000000)]=some (.d (.bool (Ff e.till))):=Bck e.till 0 2000000
 have p80:=Bb (cl:=ev R) fun H=>Bhk H e.list hf.list
 have p81:=Bb (cl:=ev R) fun H=>Bkl H e.list hf.list
 have p82:=Bb (cl:=ev R) fun H=>Bkm H e.scores hf.scores
 have p83:=Bb (cl:=ev R) fun H=>Bkn H e.fields hf.fields
 have x0: (e.text=[])=(e.text.isEmpty=true):=by simp
 have y1: ((e.list.length:Int)=0)=(e.list.isEmpty=true):=by cases e.list<;>simp<;>try omega
 have z1: (0< (e.list.length:Int))=(e.list.isEmpty=false):=by cases e.list<;>simp<;>try omega
 have y2: ((e.scores.length:Int)=0)=(e.scores.isEmpty=true):=by cases e.scores<;>simp<;>try omega
 have z2: (0< (e.scores.length:Int))=(e.scores.isEmpty=false):=by cases e.scores<;>simp<;>try omega
 have y3: ((e.fields.length:Int)=0)=(e.fields.isEmpty=true):=by cases e.fields<;>simp<;>try omega
 have z3: (0< (e.fields.length:Int))=(e.fields.isEmpty=false):=by cases e.fields<;>simp<;>try omega
 have l1: ((e.list.map D.str).length:Int)=(e.list.length:Int):=by simp
 have l2: ((e.scores.map Kh).length:Int)=(e.scores.length:Int):=by simp
 have l3: ((e.fields.map Kz).length:Int)=(e.fields.length:Int):=by simp
 have xl: ((e.text.length:Int)≤40)=(decide (e.text.length≤40)=true):=by simp;omega
 have ld: ∀j n,Dq (Bp H (.row 0 7 [.d (.agg [.str e.key, .int .i64 e.till, .int .i64 e.kind, .str e.text,Bf e.list,De e.scores,D7 e.fields])])) (Bc H) 0 0 j n=if j+n≤7 then some ((([.d (.str e.key), .d (.int .i64 e.till), .d (.int .i64 e.kind), .d (.str e.text), .d (Bf e.list), .d (De e.scores), .d (D7 e.fields)]:List V).drop j).take n) else none:=fun j n=>by
  simp[Dq,Cy,V.cells,D.cells]
 have tk:=Fb H (.row 0 7 [.d (.agg [.str e.key, .int .i64 e.till, .int .i64 e.kind, .str e.text,Bf e.list,De e.scores,D7 e.fields])])
 unfold Gl Mc
 unfold Jn
 simp only[Bf,De,D7] at*
 obtain⟨key,till,kind,text,list,scores,fields⟩:=e
 simp only at*
 generalize Gm key=KV at*
 generalize Ff till=TV at*
 obtain⟨Y,eY⟩: ∃Y,Bp H (.row 0 7 [.d (.agg [.str key, .int .i64 till, .int .i64 kind, .str text, .vals 1 (list.map D.str), .vals 2 (scores.map Kh), .vals 2 (fields.map Kz)])])=Y:=⟨_,rfl⟩
 rw[eY] at ld tk
 generalize list.map D.str=d1 at*
 generalize scores.map Kh=d2 at*
 generalize fields.map Kz=d3 at*
 generalize(list.length:Int)=n1 at*
 generalize(scores.length:Int)=n2 at*
 generalize(fields.length:Int)=n3 at*
 generalize Ch list=P80 at*
 generalize Gg list=P81 at*
 generalize Dj scores=P82 at*
 generalize Dm fields=P83 at*
 generalize text.isEmpty=B0 at*
 generalize list.isEmpty=B1 at*
 generalize scores.isEmpty=B2 at*
 generalize fields.isEmpty=B3 at*
 generalize decide (text.length≤40)=C at*
 subst hk ht hd
 cases B2 with
 |true=>simp[Cm,-Cda,-Cdb,f49,eY,pk,pt,ld,tk,l1,l2,l3,xl,x0,y1,z1,y2,z2,y3,z3,p82]
 |false=>
  cases P82 with
  |false=>simp[Cm,-Cda,-Cdb,f49,eY,pk,pt,ld,tk,l1,l2,l3,xl,x0,y1,z1,y2,z2,y3,z3,p82]
  |true=>
   cases B0 with
   |false=>simp[Cm,-Cda,-Cdb,f49,eY,pk,pt,ld,tk,l1,l2,l3,xl,x0,y1,z1,y2,z2,y3,z3,p82]
   |true=>
    cases B1 with
    |false=>simp[Cm,-Cda,-Cdb,f49,eY,pk,pt,ld,tk,l1,l2,l3,xl,x0,y1,z1,y2,z2,y3,z3,p82]
    |true=>
     cases B3 with
     |false=>simp[Cm,-Cda,-Cdb,f49,eY,pk,pt,ld,tk,l1,l2,l3,xl,x0,y1,z1,y2,z2,y3,z3,p82]
     |true=>
      simp[Cm,-Cda,-Cdb,f49,eY,pk,pt,ld,tk,l1,l2,l3,xl,x0,y1,z1,y2,z2,y3,z3,p82]
set_option maxHeartbeats 800000 in
theorem Bxa (H:Hp) (e:En) (hf:EnFit e) (hk:Gm e.key=true) (ht:Ff e.till=true) (hd:e.kind=5):ev R 49 [.d (Jn e)] H=some (.d (.bool (Gl e)),H):=by
 refine Bh (fn:=f49) rfl rfl ?_
 have pk:Be (ev R) 57 [.d (.str e.key)]=some (.d (.bool (Gm e.key))):=Bb (cl:=ev R) fun H=>Bfj H e.key
 have pt:Be (ev R) 48 [.d (.int .i64 e.till), .d (.int .i64 0), .d (.int .i64 2000000)]=some (.d (.bool (Ff e.till))):=Bck e.till 0 2000000
 have p80:=Bb (cl:=ev R) fun H=>Bhk H e.list hf.list
 have p81:=Bb (cl:=ev R) fun H=>Bkl H e.list hf.list
 have p82:=Bb (cl:=ev R) fun H=>Bkm H e.scores hf.scores
 have p83:=Bb (cl:=ev R) fun H=>Bkn H e.fields hf.fields
 have x0: (e.text=[])=(e.text.isEmpty=true):=by simp
 have y1: ((e.list.length:Int)=0)=(e.list.isEmpty=true):=by cases e.list<;>simp<;>try omega
 have z1: (0< (e.list.length:Int))=(e.list.isEmpty=false):=by cases e.list<;>simp<;>try omega
 have y2: ((e.scores.length:Int)=0)=(e.scores.isEmpty=true):=by cases e.scores<;>simp<;>try omega
 have z2: (0< (e.scores.length:Int))=(e.scores.isEmpty=false):=by cases e.scores<;>simp<;>try omega
 have y3: ((e.fields.length:Int)=0)=(e.fields.isEmpty=true):=by cases e.fields<;>simp<;>try omega
 have z3: (0< (e.fields.length:Int))=(e.fields.isEmpty=false):=by cases e.fields<;>simp<;>try omega
 have l1: ((e.list.map D.str).length:Int)=(e.list.length:Int):=by simp
 have l2: ((e.scores.map Kh).length:Int)=(e.scores.length:Int):=by simp
 have l3: ((e.fields.map Kz).length:Int)=(e.fields.length:Int):=by simp
 have xl: ((e.text.length:Int)≤40)=(decide (e.text.length≤40)=true):=by simp;omega
 have ld: ∀j n,Dq (Bp H (.row 0 7 [.d (.agg [.str e.key, .int .i64 e.till, .int .i64 e.kind, .str e.text,Bf e.list,De e.scores,D7 e.fields])])) (Bc H) 0 0 j n=if j+n≤7 then some ((([.d (.str e.key), .d (.int .i64 e.till), .d (.int .i64 e.kind), .d (.str e.text), .d (Bf e.list), .d (De e.scores), .d (D7 e.fields)]:List V).drop j).take n) else none:=fun j n=>by
  simp[Dq,Cy,V.cells,D.cells]
 have tk:=Fb H (.row 0 7 [.d (.agg [.str e.key, .int .i64 e.till, .int .i64 e.kind, .str e.text,Bf e.list,De e.scores,D7 e.fields])])
 unfold Gl Mc
 unfold Jn
 simp only[Bf,De,D7] at*
 obtain⟨key,till,kind,text,list,scores,fields⟩:=e
 simp only at*
 generalize Gm key=KV at*
 generalize Ff till=TV at*
 obtain⟨Y,eY⟩: ∃Y,Bp H (.row 0 7 [.d (.agg [.str key, .int .i64 till, .int .i64 kind, .str text, .vals 1 (list.map D.str), .vals 2 (scores.map Kh), .vals 2 (fields.map Kz)])])=Y:=⟨_,rfl⟩
 rw[eY] at ld tk
 generalize list.map D.str=d1 at*
 generalize scores.map Kh=d2 at*
 generalize fields.map Kz=d3 at*
 generalize(list.length:Int)=n1 at*
 generalize(scores.length:Int)=n2 at*
 generalize(fields.length:Int)=n3 at*
 generalize Ch list=P80 at*
 generalize Gg list=P81 at*
 generalize Dj scores=P82 at*
 generalize Dm fields=P83 at*
 generalize text.isEmpty=B0 at*
 generalize list.isEmpty=B1 at*
 generalize scores.isEmpty=B2 at*
 generalize fields.isEmpty=B3 at*
 generalize decide (text.length≤40)=C at*
 subst hk ht hd
 cases B3 with
 |true=>simp[Cm,-Cda,-Cdb,f49,eY,pk,pt,ld,tk,l1,l2,l3,xl,x0,y1,z1,y2,z2,y3,z3,p83]
 |false=>
  cases P83 with
  |false=>simp[Cm,-Cda,-Cdb,f49,eY,pk,pt,ld,tk,l1,l2,l3,xl,x0,y1,z1,y2,z2,y3,z3,p83]
  |true=>
   cases B0 with
   |false=>simp[Cm,-Cda,-Cdb,f49,eY,pk,pt,ld,tk,l1,l2,l3,xl,x0,y1,z1,y2,z2,y3,z3,p83]
   |true=>
    cases B1 with
    |false=>simp[Cm,-Cda,-Cdb,f49,eY,pk,pt,ld,tk,l1,l2,l3,xl,x0,y1,z1,y2,z2,y3,z3,p83]
    |true=>
     cases B2 with
     |false=>simp[Cm,-Cda,-Cdb,f49,eY,pk,pt,ld,tk,l1,l2,l3,xl,x0,y1,z1,y2,z2,y3,z3,p83]
     |true=>
      simp[Cm,-Cda,-Cdb,f49,eY,pk,pt,ld,tk,l1,l2,l3,xl,x0,y1,z1,y2,z2,y3,z3,p83]
theorem Bw5 (H:Hp) (e:En) (hf:EnFit e) (hk:Gm e.key=true) (ht:Ff e.till=true) (a1: ¬e.kind=1) (a2: ¬e.kind=2) (a3: ¬e.kind=3) (a4: ¬e.kind=4) (a5: ¬e.kind=5):ev R 49 [.d (Jn e)] H=some (.d (.bool (Gl e)),H):=by
 refine Bh (fn:=f49) rfl rfl ?_
 have pk:Be (ev R) 57 [.d (.str e.key)]=some (.d (.bool (Gm e.key))):=Bb (cl:=ev R) fun H=>Bfj H e.key
 have pt:Be (ev R) 48 [.d (.int .i64 e.till), .d (.int .i64 0), .d (.int .i64 2000000)]=some (.d (.bool (Ff e.till))):=Bck e.till 0 2000000
 have p80:=Bb (cl:=ev R) fun H=>Bhk H e.list hf.list
 have p81:=Bb (cl:=ev R) fun H=>Bkl H e.list hf.list
 have p82:=Bb (cl:=ev R) fun H=>Bkm H e.scores hf.scores
 have p83:=Bb (cl:=ev R) fun H=>Bkn H e.fields hf.fields
 have x0: (e.text=[])=(e.text.isEmpty=true):=by simp
 have y1: ((e.list.length:Int)=0)=(e.list.isEmpty=true):=by cases e.list<;>simp<;>try omega
 have z1: (0< (e.list.length:Int))=(e.list.isEmpty=false):=by cases e.list<;>simp<;>try omega
 have y2: ((e.scores.length:Int)=0)=(e.scores.isEmpty=true):=by cases e.scores<;>simp<;>try omega
 have z2: (0< (e.scores.length:Int))=(e.scores.isEmpty=false):=by cases e.scores<;>simp<;>try omega
 have y3: ((e.fields.length:Int)=0)=(e.fields.isEmpty=true):=by cases e.fields<;>simp<;>try omega
 have z3: (0< (e.fields.length:Int))=(e.fields.isEmpty=false):=by cases e.fields<;>simp<;>try omega
 have l1: ((e.list.map D.str).length:Int)=(e.list.length:Int):=by simp
 have l2: ((e.scores.map Kh).length:Int)=(e.scores.length:Int):=by simp
 have l3: ((e.fields.map Kz).length:Int)=(e.fields.length:Int):=by simp
 have xl: ((e.text.length:Int)≤40)=(decide (e.text.length≤40)=true):=by simp;omega
 have ld: ∀j n,Dq (Bp H (.row 0 7 [.d (.agg [.str e.key, .int .i64 e.till, .int .i64 e.kind, .str e.text,Bf e.list,De e.scores,D7 e.fields])])) (Bc H) 0 0 j n=if j+n≤7 then some ((([.d (.str e.key), .d (.int .i64 e.till), .d (.int .i64 e.kind), .d (.str e.text), .d (Bf e.list), .d (De e.scores), .d (D7 e.fields)]:List V).drop j).take n) else none:=fun j n=>by
  simp[Dq,Cy,V.cells,D.cells]
 have tk:=Fb H (.row 0 7 [.d (.agg [.str e.key, .int .i64 e.till, .int .i64 e.kind, .str e.text,Bf e.list,De e.scores,D7 e.fields])])
 unfold Gl Mc
 unfold Jn
 simp only[Bf,De,D7] at*
 obtain⟨key,till,kind,text,list,scores,fields⟩:=e
 simp only at*
 generalize Gm key=KV at*
 generalize Ff till=TV at*
 obtain⟨Y,eY⟩: ∃Y,Bp H (.row 0 7 [.d (.agg [.str key, .int .i64 till, .int .i64 kind, .str text, .vals 1 (list.map D.str), .vals 2 (scores.map Kh), .vals 2 (fields.map Kz)])])=Y:=⟨_,rfl⟩
 rw[eY] at ld tk
 generalize list.map D.str=d1 at*
 generalize scores.map Kh=d2 at*
 generalize fields.map Kz=d3 at*
 generalize(list.length:Int)=n1 at*
 generalize(scores.length:Int)=n2 at*
 generalize(fields.length:Int)=n3 at*
 generalize Ch list=P80 at*
 generalize Gg list=P81 at*
 generalize Dj scores=P82 at*
 generalize Dm fields=P83 at*
 generalize text.isEmpty=B0 at*
 generalize list.isEmpty=B1 at*
 generalize scores.isEmpty=B2 at*
 generalize fields.isEmpty=B3 at*
 generalize decide (text.length≤40)=C at*
 subst hk ht
 simp[Cm,-Cda,-Cdb,f49,eY,pk,pt,ld,tk,l1,l2,l3,xl,x0,y1,z1,y2,z2,y3,z3,a1,a2,a3,a4,a5]
theorem B8e (H:Hp) (e:En) (hf:EnFit e):ev R 49 [.d (Jn e)] H=some (.d (.bool (Gl e)),H):=by
 cases hk:Gm e.key with
 |false=>exact Bna H e hf (.inl hk)
 |true=>
  cases ht:Ff e.till with
  |false=>exact Bna H e hf (.inr ht)
  |true=>
   by_cases a1:e.kind=1
   ·exact Bw6 H e hf hk ht a1
   by_cases a2:e.kind=2
   ·exact Bw7 H e hf hk ht a2
   by_cases a3:e.kind=3
   ·exact Bw8 H e hf hk ht a3
   by_cases a4:e.kind=4
   ·exact Bw9 H e hf hk ht a4
   by_cases a5:e.kind=5
   ·exact Bxa H e hf hk ht a5
   exact Bw5 H e hf hk ht a1 a2 a3 a4 a5
theorem J8 {α:Type} (xs:List α) (i:Nat) (d:α) (h:i<xs.length):xs.take (i+1)=xs.take i++[xs.getD i d]:=by
 rw[List.take_add_one,Cdh h]
 simp[Cda,h]
theorem Bio (xs:List Br) (hx:xs.length≤9223372036854775807):Be (ev R) 61 [.d (Bf xs)]=some (.d (.bool (Gg xs))):=Bb fun H=>Bhh H xs hx
theorem Ps {α:Type} (p:α→Bool) (xs:List α) (i:Nat) (d:α) (hi:i<xs.length): (xs.take (i+1)).filter p=(xs.take i).filter p++(if p (xs.getD i d) then[xs.getD i d] else[]):=by
 rw[List.take_add_one,Cdh hi,Option.toList_some,List.filter_append]
 have:xs.getD i d=xs[i]:=by simp[Cda,hi]
 rw[this]
 cases h:p xs[i]<;>simp[h]
theorem Uc {α:Type} (p:α→Bool) (xs:List α) (i:Nat) (hi:i<xs.length): ((xs.take i).filter p).length≤i:=by
 have:=List.length_filter_le p (xs.take i)
 rw[List.length_take] at this
 omega
theorem Bim (xs:List Br) (s:Br) (hx:xs.length≤9223372036854775807):Be (ev R) 215 [.d (Bf xs), .d (.str s)]=some (.d (.bool (decide (s∈xs)))):=Bb fun H=>by
 refine Bh (fn:=f215) rfl rfl ?_
 obtain⟨o,e',X',he,rfl,g⟩:=(C9 (F:=Bq (ev R) R.glob (Bc H) Bg Bbk) (lv:=[0,1,5]) xs.length
  (fun i e X=>X=H∧e.get 0= .d (Bf xs)∧e.get 1= .d (.str s)∧e.get 5= .d (.int .i64 i)∧s ∉ xs.take i)
  (fun o e X=>X=H∧(o= .exit 0∧s ∉ xs∨o= .ret∧e.get 4= .d (.bool true)∧s∈xs))
  (by
   rintro e X ⟨rfl,g0,g1,g5,hn⟩
   rw[Cdm] at hn
   simp[Cg,-Cda,-Cdb,Bbk,g0,g1,g5,hn,Bf])
  (by
   rintro i e X hi ⟨rfl,g0,g1,g5,hn⟩
   have c: (i:Int)< (xs.length:Int):=by omega
   have g:=Dk xs i hi
   have w1:IntKind.i64.wrap ((i:Int)+1)=((i+1:Nat):Int):=by rw[IntWalk.i64_in _ (by omega)];rfl
   have hsn:=J8 xs i [] hi
   by_cases h:xs.getD i []=s
   ·have hm:s∈xs:=by rw[←h];exact Jc hi
    simp[Cg,-Cda,-Cdb,Bbk,g0,g1,g5,c,g,hi,eq_true h,hm,w1,Bf]
   ·have hm:s ∉ xs.take (i+1):=by
     rw[hsn];simp only[List.mem_append,List.mem_singleton,not_or];exact⟨hn,fun hc=>h hc.symm⟩
    simp[Cg,-Cda,-Cdb,Bbk,g0,g1,g5,c,g,hi,eq_false h,hm,w1,Bf])
  xs.length 0 [(0, .d (Bf xs)),(1, .d (.str s)),(5, .d (.int .i64 0))] H (by omega) ⟨rfl,rfl,rfl,rfl,by simp⟩).out
 rcases g with⟨rfl,g⟩ | ⟨rfl,g4,g⟩
 ·simp[Cg,-Cda,-Cdb,f215,he,g]
 ·simp[Cg,-Cda,-Cdb,f215,he,g4,g]
def M0 (xs ys:List Br):List Br:=xs.filter fun s=> !decide (s∈ys)
theorem B6p (xs ys:List Br) (hx:xs.length≤1000000) (hy:ys.length≤1000000):Be (ev R) 213 [.d (Bf xs), .d (Bf ys)]=
  some (if Gg xs=true then .tup [.d (Bf (M0 xs ys)), .d (.int .i64 (xs.length - (M0 xs ys).length))] else .tup [.d (Bf []), .d (.int .i64 0)]):=Bb fun H=>by
 refine Bh (fn:=f213) rfl rfl ?_
 have p1:=Bio xs (by omega)
 by_cases hs:Gg xs=true
 ·rw[if_pos hs]
  rw[hs] at p1
  obtain⟨o,e',X',he,rfl,rfl,g6,g0⟩:=(C9 (F:=Bq (ev R) R.glob (Bc H) Bg Bbj) (lv:=[0,1,6,7]) xs.length
   (fun i e X=> ∃zs,zs=M0 (xs.take i) ys∧X=ap H [.row zs.length 1 ((zs.map D.str).map V.d)]∧e.get 0= .d (Bf xs)∧e.get 1= .d (Bf ys)∧e.get 6= .slc (Bc H) zs.length 0 zs.length∧e.get 7= .d (.int .i64 i))
   (fun o e X=>o= .exit 0∧X=ap H [.row (M0 xs ys).length 1 (((M0 xs ys).map D.str).map V.d)]∧e.get 6= .slc (Bc H) (M0 xs ys).length 0 (M0 xs ys).length∧e.get 0= .d (Bf xs))
   (by
    rintro e X ⟨zs,rfl,rfl,g0,g1,g6,g7⟩
    rw[Cdm] at*
    simp[Cg,-Cda,-Cdb,Bbj,g0,g1,g6,g7,Bf])
   (by
    rintro i e X hi ⟨zs,hz,rfl,g0,g1,g6,g7⟩
    have c: (i:Int)< (xs.length:Int):=by omega
    have g:=Dk xs i hi
    have w1:IntKind.i64.wrap ((i:Int)+1)=((i+1:Nat):Int):=by rw[IntWalk.i64_in _ (by omega)];rfl
    have hf:=Ps (fun s=> !decide (s∈ys)) xs i [] hi
    have hl:=Uc (fun s=> !decide (s∈ys)) xs i hi
    have p2:=Bim ys (xs.getD i []) (by omega)
    have hz': (xs.take i).filter (fun s=> !decide (s∈ys))=zs:=hz.symm
    rw[hz'] at hf hl
    have hz2:M0 (xs.take (i+1)) ys=(xs.take (i+1)).filter fun s=> !decide (s∈ys):=rfl
    by_cases h:xs.getD i []∈ys
    ·rw[decide_eq_true h] at p2
     simp only[decide_eq_true h,Bool.not_true,Bool.false_eq_true,if_false,List.append_nil] at hf
     simp[Cg,-Cda,-Cdb,Bbj,g0,g1,g6,g7,c,g,hi,p2,w1,hz2,hf,Bf]
    ·rw[decide_eq_false h] at p2
     simp only[decide_eq_false h,Bool.not_false,if_true] at hf
     have r: (zs.length+1)*16≤Ct:=by unfold Ct;omega
     simp[Cg,-Cda,-Cdb,Bbj,g0,g1,g6,g7,c,g,hi,p2,w1,hz2,hf,r,Bf])
   xs.length 0 [(0, .d (Bf xs)),(1, .d (Bf ys)),(6, .slc (Bc H) 0 0 0),(7, .d (.int .i64 0))] (ap H [.row 0 1 []]) (by omega) ⟨[],by simp[M0],rfl,rfl,rfl,rfl,rfl⟩).out
  have hl: (M0 xs ys).length≤xs.length:=List.length_filter_le _ _
  have w2:IntKind.i64.wrap ((xs.length:Int) - ((M0 xs ys).length:Int))=(xs.length:Int) - ((M0 xs ys).length:Int):=IntWalk.i64_in _ (by omega)
  simp[Cg,-Cda,-Cdb,f213,p1,he,g6,g0,w2,Bf]
 ·rw[if_neg hs]
  rw[Bool.not_eq_true] at hs
  rw[hs] at p1
  simp[Cg,-Cda,-Cdb,f213,p1,Bf]
end Go.Proofs.YtpajcoanfkeibaaGreatDoor.Code
