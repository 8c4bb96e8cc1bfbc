/-
  Lemmas towards the law, 15: ReadP.
-/
import Derived.Test.YtbnkbepgmenblaaGreatDoorFAL
import Derived.Lib.AtoiAll
import Derived.Lib.Strings
set_option linter.unusedVariables false
set_option maxHeartbeats 2000000
namespace Go.Proofs.YtbnkbepgmenblaaGreatDoor
def khd:List UInt8->Int
 | []=> -1
 |b::_=> if b=35 then 1 else if b=42 then 2 else if b=40 then 3 else if b=91 then 4 else if b=78 then 6 else if b=48 then 7 else if b=43 then 8 else if b=60 then 9 else if b=123 then 10 else if b=33 then 11 else if b=64 then 12 else if b=124 then 14 else if b=94 then 15 else if b=95 then 16 else -1
def prt(k:Int):List (List UInt8):=
 if k=1 then [[35]] else if k=2 then [[42]] else if k=3 then [[40], [62], [41]] else if k=4 then [[91], [93], []] else if k=5 then [[40], [32], [41]] else if k=6 then [[78]] else if k=7 then [[48]] else if k=8 then [[43], []] else if k=9 then [[60], [44], [44], [44], [62]] else if k=10 then [[123], [44], [44], [125]] else if k=11 then [[33], []] else if k=12 then [[64,60], [44], [44], [62]] else if k=13 then [[40], [42], [41]] else if k=14 then [[124], [44], [44], [124]] else if k=15 then [[94], []] else [[95], []]
def dgs(l:List UInt8):List UInt8:=l.takeWhile q29
def rdN(l:List UInt8):Int×List UInt8:=match Lib.atoiAll (dgs l) with
 | .ok v=>(v,l.drop (dgs l).length)
 |_=>(-1, [])
def j68:List UInt8->Int
 | []=> 3
 |b::_=> if b=32 then 5 else if b=42 then 13 else 3
def rdL(f:List UInt8->Tr×List UInt8×Bool)(par:Bool):Bool->List (List UInt8)->Int->List Tr->List UInt8->Bool->Tr×List UInt8×Bool
 |_, [],k,ks,rest,ok=>(.mk k 0 ks,rest,ok)
 |fst,p::ps,k,ks,rest,ok=>
  if ok=true then
   (if(f rest).2.2=true then
    (if par=true/\fst=true/\(f rest).2.1≠ [] then rdL f par false ps (j68 (f rest).2.1) (ks++ [(f rest).1]) (Lib.trimPrefix (f rest).2.1 ((prt (j68 (f rest).2.1)).getD 1 [])) (Lib.hasPrefix (f rest).2.1 ((prt (j68 (f rest).2.1)).getD 1 []))
    else rdL f par false ps k (ks++ [(f rest).1]) (Lib.trimPrefix (f rest).2.1 p) (Lib.hasPrefix (f rest).2.1 p))
   else(y14, [],false))
  else(.mk k 0 ks,rest,ok)
def rdT:Nat->List UInt8->Tr×List UInt8×Bool
 |0,_=>(y14, [],false)
 |d+1,s=>
  if khd s < 0 then(y14, [],false)
  else if khd s=1\/khd s=2 then(.mk (khd s) (rdN (s.drop 1)).1 [],(rdN (s.drop 1)).2,decide (0<=(rdN (s.drop 1)).1))
  else rdL (rdT d) (decide (s.head?=some 40)) true (prt (khd s)).tail (khd s) [] (Lib.trimPrefix s ((prt (khd s)).headD [])) (Lib.hasPrefix s ((prt (khd s)).headD []))
def q119:List UInt8->Bool
 | []=> true
 |b::_=> !q29 b
theorem j14{l:List UInt8}{a:Nat}{x:UInt8}{s:List UInt8}(h:l.drop a=x::s):l[a]? =some x/\l.drop (a+1)=s:=by
 have h1:(l.drop a)[0]? =some x:=by rw[h];rfl
 rw[List.getElem?_drop] at h1;refine⟨by simpa using h1, ?_⟩;rw[<-List.drop_drop,h]
 rfl
theorem j86{l:List UInt8}{a:Nat}{x:UInt8}(h:l[a]? =some x):a+1<=l.length:=by
 have:=(List.getElem?_eq_some_iff.1 h).1;omega
theorem q107{g:Sig}{t:Tr}{d:Int}(h:shape g t d=true):1<=d:=by
 obtain⟨k,n,ks⟩:=t;simp only[shape,Bool.and_eq_true,decide_eq_true_eq] at h;exact h.1
theorem at_nil{l:List UInt8}{a:Nat}(h:l.drop a= []):l[a]? =none:=by
 rw[List.drop_eq_nil_iff] at h;exact List.getElem?_eq_none h
theorem q55{k:Int}{n:Nat}(h:opsT k=(n:Int)):k=1\/k=2\/k=3\/k=4\/k=5\/k=6\/k=7\/k=8\/k=9\/k=10\/k=11\/k=12\/k=13\/k=14\/k=15\/k=16:=by
 by_cases hk:1<=k/\k<=16
 · omega
 · exfalso
   unfold opsT at h
   repeat rw[if_neg (by omega)] at h
   omega
theorem y83{n:Int}(h0:0<=n)(h1:n<=20):n=0\/n=1\/n=2\/n=3\/n=4\/n=5\/n=6\/n=7\/n=8\/n=9\/n=10\/n=11\/n=12\/n=13\/n=14\/n=15\/n=16\/n=17\/n=18\/n=19\/n=20:=by omega
theorem j184{n:Int}(h0:0<=n)(h1:n<=20):Lib.atoiAll (decL n)= .ok n:=by
 rcases y83 h0 h1 with rfl|rfl|rfl|rfl|rfl|rfl|rfl|rfl|rfl|rfl|rfl|rfl|rfl|rfl|rfl|rfl|rfl|rfl|rfl|rfl|rfl <;> decide
theorem y169{l:List UInt8}(h:q119 l=true):dgs l= []:=by
 cases l with
 |nil=> rfl
 |cons b l=>
  have hb:q29 b=false:=by simpa[q119] using h
  simp[dgs,hb]
theorem q103: ∀{a l:List UInt8},(∀c∈a,q29 c=true)->q119 l=true->dgs (a++l)=a
 | [],l,_,h=> y169 h
 |c::a,l,ha,h=> by
  have h1:=q103 (a:=a) (fun x hx=> ha x (List.mem_cons_of_mem _ hx)) h;have hc:=ha c (List.mem_cons_self ..);unfold dgs at h1⊢;rw[List.cons_append,List.takeWhile_cons,hc,if_pos rfl,h1]
theorem q115{n:Int}(h0:0<=n)(h1:n<=20): ∀c∈decL n,q29 c=true:=by
 rcases y83 h0 h1 with rfl|rfl|rfl|rfl|rfl|rfl|rfl|rfl|rfl|rfl|rfl|rfl|rfl|rfl|rfl|rfl|rfl|rfl|rfl|rfl|rfl <;> decide
theorem q150{n:Int}(h0:0<=n)(h1:n<=20){r:List UInt8}(h:q119 r=true):rdN (decL n++r)=(n,r):=by
 have e:=q103 (q115 h0 h1) h;unfold rdN;rw[e,j184 h0 h1];simp
theorem y212{n:Int}(h0:0<=n)(h1:n<=20){l r:List UInt8}{a:Nat}(h:q119 r=true)(hl:l.drop a=decL n++r): ∃b,numS l a true=some (n,b)/\l.drop b=r/\b<=l.length:=by
 by_cases h9:n<=9
 · have hd:decL n= [UInt8.ofNat (48+n.toNat)]:=by unfold decL;rw[if_pos h9]
   rw[hd] at hl;obtain⟨g1,g2⟩:=j14 hl;refine⟨a+1, ?_,g2,j86 g1⟩;have hc:q29 (UInt8.ofNat (48+n.toNat))=true:=q115 h0 h1 _ (by rw[hd];simp);have hv:((UInt8.ofNat (48+n.toNat)).toNat:Int) - 48=n:=by
    rcases y83 h0 h1 with rfl|rfl|rfl|rfl|rfl|rfl|rfl|rfl|rfl|rfl|rfl|rfl|rfl|rfl|rfl|rfl|rfl|rfl|rfl|rfl|rfl <;> first|decide|omega
   unfold numS;simp only[g1,hc,if_true];cases r with
   |nil=> simp only[at_nil g2,hv]
   |cons c r=>
    have Lc:q29 c=false:=by simpa[q119] using h
    simp only[(j14 g2).1,Lc,hv]
    rfl
 · have hd: ∃c d,decL n= [c,d]/\q29 c=true/\q29 d=true/\c≠48/\((c.toNat:Int) - 48)*10+((d.toNat:Int) - 48)=n:=by
    rcases(by omega:n=10\/n=11\/n=12\/n=13\/n=14\/n=15\/n=16\/n=17\/n=18\/n=19\/n=20) with rfl|rfl|rfl|rfl|rfl|rfl|rfl|rfl|rfl|rfl|rfl <;> exact⟨_,_,rfl,by decide,by decide,by decide,by decide⟩
   obtain⟨c,d,hd,hc,hdd,hc0,hv⟩:=hd;rw[hd] at hl;obtain⟨g1,g2⟩:=j14 hl;obtain⟨g3,g4⟩:=j14 g2;refine⟨a+2, ?_,g4,j86 g3⟩;unfold numS;simp only[g1,hc,if_true,g3,hdd,if_neg hc0,hv]
theorem q210{n:Int}(h0:0<=n)(h1:n<=3){l r:List UInt8}{a:Nat}(hl:l.drop a=decL n++r): ∃b,numS l a false=some (n,b)/\l.drop b=r/\b<=l.length:=by
 have hd:decL n= [UInt8.ofNat (48+n.toNat)]:=by unfold decL;rw[if_pos (by omega)]
 rw[hd] at hl;obtain⟨g1,g2⟩:=j14 hl;refine⟨a+1, ?_,g2,j86 g1⟩;have hc:q29 (UInt8.ofNat (48+n.toNat))=true:=q115 h0 (by omega) _ (by rw[hd];simp);have hv:((UInt8.ofNat (48+n.toNat)).toNat:Int) - 48=n:=by
  rcases(by omega:n=0\/n=1\/n=2\/n=3) with rfl|rfl|rfl|rfl <;> decide
 unfold numS;simp only[g1,hc,if_true,hv]
 rfl
theorem fmt_3{x y:Tr}(r:List UInt8):fmtL (.mk 3 0 [x,y])++r=40::(fmtL x++(62::(fmtL y++(41::(r))))):=by
 simp[fmtL,fmtK,opn,sep,cls]
theorem fmt_4{x y:Tr}(r:List UInt8):fmtL (.mk 4 0 [x,y])++r=91::(fmtL x++(93::(fmtL y++(r)))):=by
 simp[fmtL,fmtK,opn,sep,cls]
theorem fmt_5{x y:Tr}(r:List UInt8):fmtL (.mk 5 0 [x,y])++r=40::(fmtL x++(32::(fmtL y++(41::(r))))):=by
 simp[fmtL,fmtK,opn,sep,cls]
theorem fmt_6(r:List UInt8):fmtL (.mk 6 0 [])++r=78::(r):=by
 simp[fmtL,fmtK,opn,cls]
theorem fmt_7(r:List UInt8):fmtL (.mk 7 0 [])++r=48::(r):=by
 simp[fmtL,fmtK,opn,cls]
theorem fmt_8{x:Tr}(r:List UInt8):fmtL (.mk 8 0 [x])++r=43::(fmtL x++(r)):=by
 simp[fmtL,fmtK,opn,cls]
theorem fmt_9{x y z u:Tr}(r:List UInt8):fmtL (.mk 9 0 [x,y,z,u])++r=60::(fmtL x++(44::(fmtL y++(44::(fmtL z++(44::(fmtL u++(62::(r))))))))):=by
 simp[fmtL,fmtK,opn,sep,cls]
theorem j164{x y z:Tr}(r:List UInt8):fmtL (.mk 10 0 [x,y,z])++r=123::(fmtL x++(44::(fmtL y++(44::(fmtL z++(125::(r))))))):=by
 simp[fmtL,fmtK,opn,sep,cls]
theorem q164{x:Tr}(r:List UInt8):fmtL (.mk 11 0 [x])++r=33::(fmtL x++(r)):=by
 simp[fmtL,fmtK,opn,cls]
theorem y189{x y z:Tr}(r:List UInt8):fmtL (.mk 12 0 [x,y,z])++r=64::(60::(fmtL x++(44::(fmtL y++(44::(fmtL z++(62::(r)))))))):=by
 simp[fmtL,fmtK,opn,sep,cls]
theorem q170{x y:Tr}(r:List UInt8):fmtL (.mk 13 0 [x,y])++r=40::(fmtL x++(42::(fmtL y++(41::(r))))):=by
 simp[fmtL,fmtK,opn,sep,cls]
theorem y187{x y z:Tr}(r:List UInt8):fmtL (.mk 14 0 [x,y,z])++r=124::(fmtL x++(44::(fmtL y++(44::(fmtL z++(124::(r))))))):=by
 simp[fmtL,fmtK,opn,sep,cls]
theorem y186{x:Tr}(r:List UInt8):fmtL (.mk 15 0 [x])++r=94::(fmtL x++(r)):=by
 simp[fmtL,fmtK,opn,cls]
theorem j176{x:Tr}(r:List UInt8):fmtL (.mk 16 0 [x])++r=95::(fmtL x++(r)):=by
 simp[fmtL,fmtK,opn,cls]
theorem q181: ∀(d:Nat) (t:Tr) (l:List UInt8) (a:Nat) (r:List UInt8),shape sigT t (d:Int)=true->q119 r=true->l.drop a=fmtL t++r-> ∃b,prs d l a=some (t,b)/\l.drop b=r/\b<=l.length
 |0,t,l,a,r,h,_,_=> by
  have:=q107 h;omega
 |d+1,.mk k n ks,l,a,r,h,hr,hl=> by
  obtain⟨j7,H7,I0,l8⟩:=j11 h;have hd:(((d+1:Nat):Int) - 1)=(d:Int):=by omega
  rw[hd] at l8;have af:opsT k=(ks.length:Int):=j7;have L6:n<=j15 k:=I0;have IH:=q181 d;rcases q55 af with rfl|rfl|rfl|rfl|rfl|rfl|rfl|rfl|rfl|rfl|rfl|rfl|rfl|rfl|rfl|rfl
  · have P4:ks= []:=List.eq_nil_of_length_eq_zero (by have:opsT 1=0:=rfl;omega)
    subst P4;have hn:n<=20:=L6;rw[show fmtL (.mk 1 n [])=35::decL n by unfold fmtL;rfl,List.cons_append] at hl;obtain⟨g1,g2⟩:=j14 hl;obtain⟨b,q1,q2,q3⟩:=y212 H7 hn hr g2;exact⟨b,by unfold prs;simp only[g1,if_true,q1,Option.map_some],q2,q3⟩
  · have P4:ks= []:=List.eq_nil_of_length_eq_zero (by have:opsT 2=0:=rfl;omega)
    subst P4;have hn:n<=3:=L6;rw[show fmtL (.mk 2 n [])=42::decL n by unfold fmtL;rfl,List.cons_append] at hl;obtain⟨g1,g2⟩:=j14 hl;obtain⟨b,q1,q2,q3⟩:=q210 H7 hn g2;exact⟨b,by unfold prs;simp only[g1];rw[if_neg (by decide),if_pos trivial,q1];rfl,q2,q3⟩
  · skip
    have hn:n=0:=by have:j15 3=0:=rfl;omega
    subst hn;obtain⟨x,y,rfl⟩: ∃x y,ks= [x,y]:=by
     have hlen:ks.length=2:=by have:opsT 3=2:=rfl;omega
     match ks,hlen with
     | [x,y],_=> exact⟨x,y,rfl⟩
    rw[fmt_3] at hl;obtain⟨g1,e1⟩:=j14 hl;obtain⟨b0,q0,h0,m0⟩:=IH x l _ _ (l8 _ (by simp)) rfl e1;obtain⟨g2,e2⟩:=j14 h0;obtain⟨b1,q1,h1,m1⟩:=IH y l _ _ (l8 _ (by simp)) rfl e2;obtain⟨g3,e3⟩:=j14 h1;exact⟨_,by unfold prs;simp only[g1];simp[rnd,q0,g2,q1,g3,rndK],e3,j86 g3⟩
  · skip
    have hn:n=0:=by have:j15 4=0:=rfl;omega
    subst hn;obtain⟨x,y,rfl⟩: ∃x y,ks= [x,y]:=by
     have hlen:ks.length=2:=by have:opsT 4=2:=rfl;omega
     match ks,hlen with
     | [x,y],_=> exact⟨x,y,rfl⟩
    rw[fmt_4] at hl;obtain⟨g1,e1⟩:=j14 hl;obtain⟨b0,q0,h0,m0⟩:=IH x l _ _ (l8 _ (by simp)) rfl e1;obtain⟨g2,e2⟩:=j14 h0;obtain⟨b1,q1,h1,m1⟩:=IH y l _ _ (l8 _ (by simp)) hr e2;exact⟨_,by unfold prs;simp only[g1];simp[sqr,q0,g2,q1],h1,m1⟩
  · skip
    have hn:n=0:=by have:j15 5=0:=rfl;omega
    subst hn;obtain⟨x,y,rfl⟩: ∃x y,ks= [x,y]:=by
     have hlen:ks.length=2:=by have:opsT 5=2:=rfl;omega
     match ks,hlen with
     | [x,y],_=> exact⟨x,y,rfl⟩
    rw[fmt_5] at hl;obtain⟨g1,e1⟩:=j14 hl;obtain⟨b0,q0,h0,m0⟩:=IH x l _ _ (l8 _ (by simp)) rfl e1;obtain⟨g2,e2⟩:=j14 h0;obtain⟨b1,q1,h1,m1⟩:=IH y l _ _ (l8 _ (by simp)) rfl e2;obtain⟨g3,e3⟩:=j14 h1;exact⟨_,by unfold prs;simp only[g1];simp[rnd,q0,g2,q1,g3,rndK],e3,j86 g3⟩
  · skip
    have hn:n=0:=by have:j15 6=0:=rfl;omega
    subst hn;have P4:ks= []:=List.eq_nil_of_length_eq_zero (by have:opsT 6=0:=rfl;omega);subst P4;rw[fmt_6] at hl;obtain⟨g1,e1⟩:=j14 hl;exact⟨_,by unfold prs;simp only[g1];rfl,e1,j86 g1⟩
  · skip
    have hn:n=0:=by have:j15 7=0:=rfl;omega
    subst hn;have P4:ks= []:=List.eq_nil_of_length_eq_zero (by have:opsT 7=0:=rfl;omega);subst P4;rw[fmt_7] at hl;obtain⟨g1,e1⟩:=j14 hl;exact⟨_,by unfold prs;simp only[g1];rfl,e1,j86 g1⟩
  · skip
    have hn:n=0:=by have:j15 8=0:=rfl;omega
    subst hn;obtain⟨x,rfl⟩: ∃x,ks= [x]:=by
     have hlen:ks.length=1:=by have:opsT 8=1:=rfl;omega
     match ks,hlen with
     | [x],_=> exact⟨x,rfl⟩
    rw[fmt_8] at hl;obtain⟨g1,e1⟩:=j14 hl;obtain⟨b0,q0,h0,m0⟩:=IH x l _ _ (l8 _ (by simp)) hr e1;exact⟨_,by unfold prs;simp only[g1,q0];simp[one],h0,m0⟩
  · skip
    have hn:n=0:=by have:j15 9=0:=rfl;omega
    subst hn;obtain⟨x,y,z,u,rfl⟩: ∃x y z u,ks= [x,y,z,u]:=by
     have hlen:ks.length=4:=by have:opsT 9=4:=rfl;omega
     match ks,hlen with
     | [x,y,z,u],_=> exact⟨x,y,z,u,rfl⟩
    rw[fmt_9] at hl;obtain⟨g1,e1⟩:=j14 hl;obtain⟨b0,q0,h0,m0⟩:=IH x l _ _ (l8 _ (by simp)) rfl e1;obtain⟨g2,e2⟩:=j14 h0;obtain⟨b1,q1,h1,m1⟩:=IH y l _ _ (l8 _ (by simp)) rfl e2;obtain⟨g3,e3⟩:=j14 h1;obtain⟨b2,q2,h2,m2⟩:=IH z l _ _ (l8 _ (by simp)) rfl e3;obtain⟨g4,e4⟩:=j14 h2;obtain⟨b3,q3,h3,m3⟩:=IH u l _ _ (l8 _ (by simp)) rfl e4;obtain⟨g5,e5⟩:=j14 h3;exact⟨_,by unfold prs;simp only[g1];simp[blk,blkK,blkE,ser,q0,g2,q1,g3,q2,g4,q3,g5],e5,j86 g5⟩
  · skip
    have hn:n=0:=by have:j15 10=0:=rfl;omega
    subst hn;obtain⟨x,y,z,rfl⟩: ∃x y z,ks= [x,y,z]:=by
     have hlen:ks.length=3:=by have:opsT 10=3:=rfl;omega
     match ks,hlen with
     | [x,y,z],_=> exact⟨x,y,z,rfl⟩
    rw[j164] at hl;obtain⟨g1,e1⟩:=j14 hl;obtain⟨b0,q0,h0,m0⟩:=IH x l _ _ (l8 _ (by simp)) rfl e1;obtain⟨g2,e2⟩:=j14 h0;obtain⟨b1,q1,h1,m1⟩:=IH y l _ _ (l8 _ (by simp)) rfl e2;obtain⟨g3,e3⟩:=j14 h1;obtain⟨b2,q2,h2,m2⟩:=IH z l _ _ (l8 _ (by simp)) rfl e3;obtain⟨g4,e4⟩:=j14 h2;exact⟨_,by unfold prs;simp only[g1];simp[blk,blkK,blkE,ser,q0,g2,q1,g3,q2,g4],e4,j86 g4⟩
  · skip
    have hn:n=0:=by have:j15 11=0:=rfl;omega
    subst hn;obtain⟨x,rfl⟩: ∃x,ks= [x]:=by
     have hlen:ks.length=1:=by have:opsT 11=1:=rfl;omega
     match ks,hlen with
     | [x],_=> exact⟨x,rfl⟩
    rw[q164] at hl;obtain⟨g1,e1⟩:=j14 hl;obtain⟨b0,q0,h0,m0⟩:=IH x l _ _ (l8 _ (by simp)) hr e1;exact⟨_,by unfold prs;simp only[g1,q0];simp[one],h0,m0⟩
  · skip
    have hn:n=0:=by have:j15 12=0:=rfl;omega
    subst hn;obtain⟨x,y,z,rfl⟩: ∃x y z,ks= [x,y,z]:=by
     have hlen:ks.length=3:=by have:opsT 12=3:=rfl;omega
     match ks,hlen with
     | [x,y,z],_=> exact⟨x,y,z,rfl⟩
    rw[y189] at hl;obtain⟨g1,e1⟩:=j14 hl;obtain⟨g2,e2⟩:=j14 e1;obtain⟨b0,q0,h0,m0⟩:=IH x l _ _ (l8 _ (by simp)) rfl e2;obtain⟨g3,e3⟩:=j14 h0;obtain⟨b1,q1,h1,m1⟩:=IH y l _ _ (l8 _ (by simp)) rfl e3;obtain⟨g4,e4⟩:=j14 h1;obtain⟨b2,q2,h2,m2⟩:=IH z l _ _ (l8 _ (by simp)) rfl e4;obtain⟨g5,e5⟩:=j14 h2;exact⟨_,by unfold prs;simp only[g1];simp[blk,blkK,ser,g2,q0,g3,q1,g4,q2,g5],e5,j86 g5⟩
  · skip
    have hn:n=0:=by have:j15 13=0:=rfl;omega
    subst hn;obtain⟨x,y,rfl⟩: ∃x y,ks= [x,y]:=by
     have hlen:ks.length=2:=by have:opsT 13=2:=rfl;omega
     match ks,hlen with
     | [x,y],_=> exact⟨x,y,rfl⟩
    rw[q170] at hl;obtain⟨g1,e1⟩:=j14 hl;obtain⟨b0,q0,h0,m0⟩:=IH x l _ _ (l8 _ (by simp)) rfl e1;obtain⟨g2,e2⟩:=j14 h0;obtain⟨b1,q1,h1,m1⟩:=IH y l _ _ (l8 _ (by simp)) rfl e2;obtain⟨g3,e3⟩:=j14 h1;exact⟨_,by unfold prs;simp only[g1];simp[rnd,q0,g2,q1,g3,rndK],e3,j86 g3⟩
  · skip
    have hn:n=0:=by have:j15 14=0:=rfl;omega
    subst hn;obtain⟨x,y,z,rfl⟩: ∃x y z,ks= [x,y,z]:=by
     have hlen:ks.length=3:=by have:opsT 14=3:=rfl;omega
     match ks,hlen with
     | [x,y,z],_=> exact⟨x,y,z,rfl⟩
    rw[y187] at hl;obtain⟨g1,e1⟩:=j14 hl;obtain⟨b0,q0,h0,m0⟩:=IH x l _ _ (l8 _ (by simp)) rfl e1;obtain⟨g2,e2⟩:=j14 h0;obtain⟨b1,q1,h1,m1⟩:=IH y l _ _ (l8 _ (by simp)) rfl e2;obtain⟨g3,e3⟩:=j14 h1;obtain⟨b2,q2,h2,m2⟩:=IH z l _ _ (l8 _ (by simp)) rfl e3;obtain⟨g4,e4⟩:=j14 h2;exact⟨_,by unfold prs;simp only[g1];simp[blk,blkK,blkE,ser,q0,g2,q1,g3,q2,g4],e4,j86 g4⟩
  · skip
    have hn:n=0:=by have:j15 15=0:=rfl;omega
    subst hn;obtain⟨x,rfl⟩: ∃x,ks= [x]:=by
     have hlen:ks.length=1:=by have:opsT 15=1:=rfl;omega
     match ks,hlen with
     | [x],_=> exact⟨x,rfl⟩
    rw[y186] at hl;obtain⟨g1,e1⟩:=j14 hl;obtain⟨b0,q0,h0,m0⟩:=IH x l _ _ (l8 _ (by simp)) hr e1;exact⟨_,by unfold prs;simp only[g1,q0];simp[one],h0,m0⟩
  · skip
    have hn:n=0:=by have:j15 16=0:=rfl;omega
    subst hn;obtain⟨x,rfl⟩: ∃x,ks= [x]:=by
     have hlen:ks.length=1:=by have:opsT 16=1:=rfl;omega
     match ks,hlen with
     | [x],_=> exact⟨x,rfl⟩
    rw[j176] at hl;obtain⟨g1,e1⟩:=j14 hl;obtain⟨b0,q0,h0,m0⟩:=IH x l _ _ (l8 _ (by simp)) hr e1;exact⟨_,by unfold prs;simp only[g1,q0];simp[one],h0,m0⟩
theorem j160: ∀(d:Nat) (t:Tr) (r:List UInt8),shape sigT t (d:Int)=true->q119 r=true->rdT d (fmtL t++r)=(t,r,true)
 |0,t,r,h,_=> by
  have:=q107 h;omega
 |d+1,.mk k n ks,r,h,hr=> by
  obtain⟨j7,H7,I0,l8⟩:=j11 h;have hd:(((d+1:Nat):Int) - 1)=(d:Int):=by omega
  rw[hd] at l8;have af:opsT k=(ks.length:Int):=j7;have L6:n<=j15 k:=I0;have IH:=j160 d;rcases q55 af with rfl|rfl|rfl|rfl|rfl|rfl|rfl|rfl|rfl|rfl|rfl|rfl|rfl|rfl|rfl|rfl
  · have P4:ks= []:=List.eq_nil_of_length_eq_zero (by have:opsT 1=0:=rfl;omega)
    subst P4;have hn:n<=20:=L6;rw[show fmtL (.mk 1 n [])=35::decL n by unfold fmtL;rfl,List.cons_append];unfold rdT;simp only[khd,List.drop_succ_cons,List.drop_zero,q150 H7 (show n<=20 by omega) hr];simp[H7]
  · have P4:ks= []:=List.eq_nil_of_length_eq_zero (by have:opsT 2=0:=rfl;omega)
    subst P4;have hn:n<=3:=L6;rw[show fmtL (.mk 2 n [])=42::decL n by unfold fmtL;rfl,List.cons_append];unfold rdT;simp only[khd,List.drop_succ_cons,List.drop_zero,q150 H7 (show n<=20 by omega) hr];simp[H7]
  · skip
    have hn:n=0:=by have:j15 3=0:=rfl;omega
    subst hn;obtain⟨x,y,rfl⟩: ∃x y,ks= [x,y]:=by
     have hlen:ks.length=2:=by have:opsT 3=2:=rfl;omega
     match ks,hlen with
     | [x,y],_=> exact⟨x,y,rfl⟩
    rw[fmt_3];have q0:=IH x (62::(fmtL y++(41::(r)))) (l8 _ (by simp)) rfl;have q1:=IH y (41::(r)) (l8 _ (by simp)) rfl;unfold rdT;simp[khd,prt,rdL,j68,Lib.trimPrefix,Lib.hasPrefix,q0,q1]
  · skip
    have hn:n=0:=by have:j15 4=0:=rfl;omega
    subst hn;obtain⟨x,y,rfl⟩: ∃x y,ks= [x,y]:=by
     have hlen:ks.length=2:=by have:opsT 4=2:=rfl;omega
     match ks,hlen with
     | [x,y],_=> exact⟨x,y,rfl⟩
    rw[fmt_4];have q0:=IH x (93::(fmtL y++(r))) (l8 _ (by simp)) rfl;have q1:=IH y (r) (l8 _ (by simp)) hr;unfold rdT;simp[khd,prt,rdL,Lib.trimPrefix,Lib.hasPrefix,q0,q1]
  · skip
    have hn:n=0:=by have:j15 5=0:=rfl;omega
    subst hn;obtain⟨x,y,rfl⟩: ∃x y,ks= [x,y]:=by
     have hlen:ks.length=2:=by have:opsT 5=2:=rfl;omega
     match ks,hlen with
     | [x,y],_=> exact⟨x,y,rfl⟩
    rw[fmt_5];have q0:=IH x (32::(fmtL y++(41::(r)))) (l8 _ (by simp)) rfl;have q1:=IH y (41::(r)) (l8 _ (by simp)) rfl;unfold rdT;simp[khd,prt,rdL,j68,Lib.trimPrefix,Lib.hasPrefix,q0,q1]
  · skip
    have hn:n=0:=by have:j15 6=0:=rfl;omega
    subst hn;have P4:ks= []:=List.eq_nil_of_length_eq_zero (by have:opsT 6=0:=rfl;omega);subst P4;rw[fmt_6];unfold rdT;simp[khd,prt,rdL,Lib.trimPrefix,Lib.hasPrefix]
  · skip
    have hn:n=0:=by have:j15 7=0:=rfl;omega
    subst hn;have P4:ks= []:=List.eq_nil_of_length_eq_zero (by have:opsT 7=0:=rfl;omega);subst P4;rw[fmt_7];unfold rdT;simp[khd,prt,rdL,Lib.trimPrefix,Lib.hasPrefix]
  · skip
    have hn:n=0:=by have:j15 8=0:=rfl;omega
    subst hn;obtain⟨x,rfl⟩: ∃x,ks= [x]:=by
     have hlen:ks.length=1:=by have:opsT 8=1:=rfl;omega
     match ks,hlen with
     | [x],_=> exact⟨x,rfl⟩
    rw[fmt_8];have q0:=IH x (r) (l8 _ (by simp)) hr;unfold rdT;simp[khd,prt,rdL,Lib.trimPrefix,Lib.hasPrefix,q0]
  · skip
    have hn:n=0:=by have:j15 9=0:=rfl;omega
    subst hn;obtain⟨x,y,z,u,rfl⟩: ∃x y z u,ks= [x,y,z,u]:=by
     have hlen:ks.length=4:=by have:opsT 9=4:=rfl;omega
     match ks,hlen with
     | [x,y,z,u],_=> exact⟨x,y,z,u,rfl⟩
    rw[fmt_9];have q0:=IH x (44::(fmtL y++(44::(fmtL z++(44::(fmtL u++(62::(r)))))))) (l8 _ (by simp)) rfl;have q1:=IH y (44::(fmtL z++(44::(fmtL u++(62::(r)))))) (l8 _ (by simp)) rfl;have q2:=IH z (44::(fmtL u++(62::(r)))) (l8 _ (by simp)) rfl;have q3:=IH u (62::(r)) (l8 _ (by simp)) rfl;unfold rdT;simp[khd,prt,rdL,Lib.trimPrefix,Lib.hasPrefix,q0,q1,q2,q3]
  · skip
    have hn:n=0:=by have:j15 10=0:=rfl;omega
    subst hn;obtain⟨x,y,z,rfl⟩: ∃x y z,ks= [x,y,z]:=by
     have hlen:ks.length=3:=by have:opsT 10=3:=rfl;omega
     match ks,hlen with
     | [x,y,z],_=> exact⟨x,y,z,rfl⟩
    rw[j164];have q0:=IH x (44::(fmtL y++(44::(fmtL z++(125::(r)))))) (l8 _ (by simp)) rfl;have q1:=IH y (44::(fmtL z++(125::(r)))) (l8 _ (by simp)) rfl;have q2:=IH z (125::(r)) (l8 _ (by simp)) rfl;unfold rdT;simp[khd,prt,rdL,Lib.trimPrefix,Lib.hasPrefix,q0,q1,q2]
  · skip
    have hn:n=0:=by have:j15 11=0:=rfl;omega
    subst hn;obtain⟨x,rfl⟩: ∃x,ks= [x]:=by
     have hlen:ks.length=1:=by have:opsT 11=1:=rfl;omega
     match ks,hlen with
     | [x],_=> exact⟨x,rfl⟩
    rw[q164];have q0:=IH x (r) (l8 _ (by simp)) hr;unfold rdT;simp[khd,prt,rdL,Lib.trimPrefix,Lib.hasPrefix,q0]
  · skip
    have hn:n=0:=by have:j15 12=0:=rfl;omega
    subst hn;obtain⟨x,y,z,rfl⟩: ∃x y z,ks= [x,y,z]:=by
     have hlen:ks.length=3:=by have:opsT 12=3:=rfl;omega
     match ks,hlen with
     | [x,y,z],_=> exact⟨x,y,z,rfl⟩
    rw[y189];have q0:=IH x (44::(fmtL y++(44::(fmtL z++(62::(r)))))) (l8 _ (by simp)) rfl;have q1:=IH y (44::(fmtL z++(62::(r)))) (l8 _ (by simp)) rfl;have q2:=IH z (62::(r)) (l8 _ (by simp)) rfl;unfold rdT;simp[khd,prt,rdL,Lib.trimPrefix,Lib.hasPrefix,q0,q1,q2]
  · skip
    have hn:n=0:=by have:j15 13=0:=rfl;omega
    subst hn;obtain⟨x,y,rfl⟩: ∃x y,ks= [x,y]:=by
     have hlen:ks.length=2:=by have:opsT 13=2:=rfl;omega
     match ks,hlen with
     | [x,y],_=> exact⟨x,y,rfl⟩
    rw[q170];have q0:=IH x (42::(fmtL y++(41::(r)))) (l8 _ (by simp)) rfl;have q1:=IH y (41::(r)) (l8 _ (by simp)) rfl;unfold rdT;simp[khd,prt,rdL,j68,Lib.trimPrefix,Lib.hasPrefix,q0,q1]
  · skip
    have hn:n=0:=by have:j15 14=0:=rfl;omega
    subst hn;obtain⟨x,y,z,rfl⟩: ∃x y z,ks= [x,y,z]:=by
     have hlen:ks.length=3:=by have:opsT 14=3:=rfl;omega
     match ks,hlen with
     | [x,y,z],_=> exact⟨x,y,z,rfl⟩
    rw[y187];have q0:=IH x (44::(fmtL y++(44::(fmtL z++(124::(r)))))) (l8 _ (by simp)) rfl;have q1:=IH y (44::(fmtL z++(124::(r)))) (l8 _ (by simp)) rfl;have q2:=IH z (124::(r)) (l8 _ (by simp)) rfl;unfold rdT;simp[khd,prt,rdL,Lib.trimPrefix,Lib.hasPrefix,q0,q1,q2]
  · skip
    have hn:n=0:=by have:j15 15=0:=rfl;omega
    subst hn;obtain⟨x,rfl⟩: ∃x,ks= [x]:=by
     have hlen:ks.length=1:=by have:opsT 15=1:=rfl;omega
     match ks,hlen with
     | [x],_=> exact⟨x,rfl⟩
    rw[y186];have q0:=IH x (r) (l8 _ (by simp)) hr;unfold rdT;simp[khd,prt,rdL,Lib.trimPrefix,Lib.hasPrefix,q0]
  · skip
    have hn:n=0:=by have:j15 16=0:=rfl;omega
    subst hn;obtain⟨x,rfl⟩: ∃x,ks= [x]:=by
     have hlen:ks.length=1:=by have:opsT 16=1:=rfl;omega
     match ks,hlen with
     | [x],_=> exact⟨x,rfl⟩
    rw[j176];have q0:=IH x (r) (l8 _ (by simp)) hr;unfold rdT;simp[khd,prt,rdL,Lib.trimPrefix,Lib.hasPrefix,q0]
def rdV(l:List UInt8):Option Tr:=if(rdT 30 l).2.2=true/\(rdT 30 l).2.1= []/\valid sigT (rdT 30 l).1=true/\fmtL (rdT 30 l).1=l then some (rdT 30 l).1 else none
theorem y194{t:Tr}(h:valid sigT t=true):prsV (fmtL t)=some t:=by
 have hs:shape sigT t ((30:Nat):Int)=true:=by
  unfold valid at h;rw[Bool.and_eq_true] at h;exact h.1
 obtain⟨b,h1,h2,hb⟩:=q181 30 t (fmtL t) 0 [] hs rfl (by simp);have hne:fmtL t≠ []:=by
  intro he;have h3:(fmtL t)[0]? =none:=by rw[he];rfl
  unfold prs at h1;rw[h3] at h1;cases h1
 rw[List.drop_eq_nil_iff] at h2;unfold prsV;rw[h1];simp only;rw[if_pos ⟨hne,by omega,by unfold fmtV;rw[if_pos h]⟩]
theorem rdV_eq(l:List UInt8):rdV l=prsV l:=by
 cases hp:prsV l with
 |some t=>
  obtain⟨hv,hf⟩:=y157 hp;have hs:shape sigT t ((30:Nat):Int)=true:=by
   unfold valid at hv;rw[Bool.and_eq_true] at hv;exact hv.1
  have h1:=j160 30 t [] hs rfl;rw[List.append_nil,hf] at h1;unfold rdV;rw[h1];simp[hv,hf]
 |none=>
  unfold rdV
  split
  · rename_i hh
    have:=y194 hh.2.2.1;rw[hh.2.2.2,hp] at this;cases this
  · rfl
end Go.Proofs.YtbnkbepgmenblaaGreatDoor
