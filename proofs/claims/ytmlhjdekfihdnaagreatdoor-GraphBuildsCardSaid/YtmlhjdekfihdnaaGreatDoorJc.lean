/- Some texts of the proof, joined. Condition: none. -/
import Derived.Test.YtmlhjdekfihdnaaGreatDoorJa
import Derived.Test.YtmlhjdekfihdnaaGreatDoorKr2
import Derived.Test.YtmlhjdekfihdnaaGreatDoorTmF
import Derived.Test.YtmlhjdekfihdnaaGreatDoorJb
set_option maxRecDepth 100000
set_option maxHeartbeats 64000000
set_option linter.unusedSimpArgs false
set_option linter.unusedVariables false
namespace Go.Proofs.YtmlhjdekfihdnaaGreatDoor
open Go Go.TM
theorem aOb (op:Int)(h:1≤op∧op≤25):TM.Pure K 130 [.iv (.int .i64 op)] (.iv (.int .i64 (if op≤14 then 1 else if op=23 then 3 else if op=25 then 4 else 2))):=by
 refine aH t130 rfl rfl ?_
 rcases (by omega:op≤14∨op=23∨op=25∨(15≤op∧op≤22)∨op=24) with h1|h1|h1|h1|h1
 ·rw[if_pos h1]; simp (config := { maxSteps := 4000000 }) (disch:=omega) only[t130,go_sem]
 ·rw[if_neg (by omega),if_pos h1]; simp (config := { maxSteps := 4000000 }) (disch:=omega) only[t130,go_sem]
 ·rw[if_neg (by omega),if_neg (by omega),if_pos h1]; simp (config := { maxSteps := 4000000 }) (disch:=omega) only[t130,go_sem]
 ·rw[if_neg (by omega),if_neg (by omega),if_neg (by omega)]; simp (config := { maxSteps := 4000000 }) (disch:=omega) only[t130,go_sem]
 ·rw[if_neg (by omega),if_neg (by omega),if_neg (by omega)]; simp (config := { maxSteps := 4000000 }) (disch:=omega) only[t130,go_sem]
theorem aP9:TM.Pure K 129 [.iv (.int .i64 1)] (.tup [.iv (.bool true),.iv (.bool true),.iv (.bool true),.iv (.int .i64 0)]):=by
 refine aH t129 rfl rfl ?_
 simp (config := { maxSteps := 4000000 }) (disch:=omega) only[t129,go_sem]
theorem aC1:TM.Pure K 129 [.iv (.int .i64 2)] (.tup [.iv (.bool true),.iv (.bool true),.iv (.bool false),.iv (.int .i64 16)]):=by
 refine aH t129 rfl rfl ?_
 simp (config := { maxSteps := 4000000 }) (disch:=omega) only[t129,go_sem]
theorem aQa:TM.Pure K 129 [.iv (.int .i64 3)] (.tup [.iv (.bool true),.iv (.bool false),.iv (.bool false),.iv (.int .i64 16)]):=by
 refine aH t129 rfl rfl ?_
 simp (config := { maxSteps := 4000000 }) (disch:=omega) only[t129,go_sem]
theorem aQb:TM.Pure K 129 [.iv (.int .i64 4)] (.tup [.iv (.bool false),.iv (.bool true),.iv (.bool true),.iv (.int .i64 16)]):=by
 refine aH t129 rfl rfl ?_
 simp (config := { maxSteps := 4000000 }) (disch:=omega) only[t129,go_sem]
theorem aEs (b:Bool):TM.Pure K 138 [.iv (.bool b),.iv (.int .i64 0)] (.iv (.bool true)):=by
 refine aH t138 rfl rfl ?_
 cases b<;>simp (config := { maxSteps := 4000000 }) (disch:=omega) only[t138,go_sem]
theorem bCu (op:Int)(h:1≤op∧op≤25):TM.Pure K 137 [.iv (.int .i64 op)] (.tup [.iv (.int .i64 (loM op)),.iv (.int .i64 (hiM op))]):=by
 have c90:=aOb op h
 unfold loM hiM
 refine aH t137 rfl rfl ?_
 rcases (by omega:op≤14∨op=15∨op=16∨op=17∨op=18∨op=19∨op=20∨op=21∨op=22∨op=23∨op=24∨op=25) with h1|h1|h1|h1|h1|h1|h1|h1|h1|h1|h1|h1
 ·rw[if_neg (by omega),if_neg (by omega),if_neg (by omega),if_neg (by omega)]
  rw[if_pos h1]at c90
  simp (config := { maxSteps := 4000000 }) (disch:=omega) only[t137,go_sem,aB c90]
 all_goals
  subst h1
  simp (config := { maxSteps := 4000000 }) (disch:=omega) only[t137,go_sem,aB c90]
  rfl
theorem zH (op:Int)(h:1≤op∧op≤25):∃(fm:Int) (d a b:Bool) (im:Int),TM.Pure K 130 [.iv (.int .i64 op)] (.iv (.int .i64 fm))∧TM.Pure K 129 [.iv (.int .i64 fm)] (.tup [.iv (.bool d),.iv (.bool a),.iv (.bool b),.iv (.int .i64 im)])∧fm≠0∧0≤im∧im≤21:=by
 have c90:=aOb op h
 rcases (by omega:op≤14∨op=23∨op=25∨(15≤op∧op≤22)∨op=24) with h1|h1|h1|h1|h1
 ·rw[if_pos h1]at c90; exact⟨1,_,_,_,_,c90,aP9,by decide,by decide,by decide⟩
 ·rw[if_neg (by omega),if_pos h1]at c90; exact⟨3,_,_,_,_,c90,aQa,by decide,by decide,by decide⟩
 ·rw[if_neg (by omega),if_neg (by omega),if_pos h1]at c90; exact⟨4,_,_,_,_,c90,aQb,by decide,by decide,by decide⟩
 ·rw[if_neg (by omega),if_neg (by omega),if_neg (by omega)]at c90; exact⟨2,_,_,_,_,c90,aC1,by decide,by decide,by decide⟩
 ·rw[if_neg (by omega),if_neg (by omega),if_neg (by omega)]at c90; exact⟨2,_,_,_,_,c90,aC1,by decide,by decide,by decide⟩
theorem bCv (op im:Int)(h:1≤op∧op≤25):TM.Pure K 128 [.iv (.agg [.int .i64 op,.int .i64 0,.int .i64 0,.int .i64 0,.int .i64 im])] (.iv (.int .i64 (if loM op≤im∧im≤hiM op then 0 else 11))):=by
 obtain⟨fm,d,a,b,ib,c90,c89,h0,_,_⟩:=zH op h
 have c91:=bCu op h
 have c1:=aEs d
 have c2:=aEs a
 have c3:=aEs b
 generalize loM op=lo at *
 generalize hiM op=hi at *
 refine aH t128 rfl rfl ?_
 by_cases e1:lo≤im
 ·by_cases e2:im≤hi
  ·rw[if_pos ⟨e1,e2⟩]
   simp (config := { maxSteps := 4000000 }) (disch:=omega) only[t128,go_sem,aB c90,aB c89,aB c91,aB c1,aB c2,aB c3]
  ·rw[if_neg (by omega)]
   simp (config := { maxSteps := 4000000 }) (disch:=omega) only[t128,go_sem,aB c90,aB c89,aB c91,aB c1,aB c2,aB c3]
 ·rw[if_neg (by omega)]
  simp (config := { maxSteps := 4000000 }) (disch:=omega) only[t128,go_sem,aB c90,aB c89,aB c91,aB c1,aB c2,aB c3]
def aGx (b:Bool):List IV:=[.bool b,.int .i64 0]
theorem aEt (E:List Bool)(hE:E.length≤10)(x0 x1 x2 x3 x4 x5 x6 x7 x8 x12:TV):∀(k i:Nat) (w at':Int) (x11 x16 x17:TV),i+k=E.length→5*(k:Int)≤at'→at'≤100 →
  ∃(w' at2:Int) (y11 y16 y17:TV),lp' (lim K) t113L0 [x0,x1,x2,x3,x4,x5,x6,x7,x8,.iv (.int .u32 w),.iv (.int .i64 at'),x11,x12,.iv (.sl .full (E.map aGx)),.iv (.int .i64 E.length),.iv (.int .i64 i),x16,x17] []
   = .ret (.exit 0,[x0,x1,x2,x3,x4,x5,x6,x7,x8,.iv (.int .u32 w'),.iv (.int .i64 at2),y11,x12,.iv (.sl .full (E.map aGx)),.iv (.int .i64 E.length),.iv (.int .i64 E.length),y16,y17],[])
 | 0,i,w,at',x11,x16,x17,h,h1,h2=>by
  obtain rfl:i=E.length:=by omega
  refine⟨w,at',x11,.iv (.bool false),x17,aF K _ _ t113L0.eq_1 ?_⟩
  simp (config := { maxSteps := 4000000 }) (disch:=omega) only[go_sem]
 | k+1,i,w,at',x11,x16,x17,h,h1,h2=>by
  have hla:i<E.length:=by omega
  have hix:=gJ (w:=2) (f:=aGx) (fun _=>rfl) (t:=.full) (l:=E) (i:=(i:Int)) (by omega)
  rw[Int.toNat_natCast]at hix
  generalize E.getD i default=b at *
  rw[show aGx b=[.bool b,.int .i64 0] from rfl]at hix
  have g2:∀(env:Env) (S:aA) (a b:IV),bO env S (.iv (.cp [a,b])) 2=some [.iv a,.iv b]:=fun _ _ _ _=>by simp[bO,sub]
  cases b with
  | true =>
   have hz:IntKind.u32.wrap 0=0:=by decide
   obtain⟨w',at2,y11,y16,y17,ih⟩:=aEt E hE x0 x1 x2 x3 x4 x5 x6 x7 x8 x12 k (i+1) (IntKind.u32.wrap (bOr 32 w (IntKind.u32.wrap (0*2 ^ (if at'.toNat≤32 then at'.toNat else 32))))) (at'-5) (.lb [.iv (.bool true),.iv (.int .i64 0)]) (.iv (.bool true)) (.iv (.bool true)) (by omega) (by omega) (by omega)
   rw[show ((i+1:Nat):Int)=(i:Int)+1 by omega]at ih
   refine⟨w',at2,y11,y16,y17,aF K _ _ t113L0.eq_1 ?_⟩
   simp (config := { maxSteps := 4000000 }) (disch:=omega) only[go_sem,hix,g2,aD,hz]
   exact congrArg er ih
  | false =>
   obtain⟨w',at2,y11,y16,y17,ih⟩:=aEt E hE x0 x1 x2 x3 x4 x5 x6 x7 x8 x12 k (i+1) w at' (.lb [.iv (.bool false),.iv (.int .i64 0)]) (.iv (.bool true)) (.iv (.bool false)) (by omega) (by omega) (by omega)
   rw[show ((i+1:Nat):Int)=(i:Int)+1 by omega]at ih
   refine⟨w',at2,y11,y16,y17,aF K _ _ t113L0.eq_1 ?_⟩
   simp (config := { maxSteps := 4000000 }) (disch:=omega) only[go_sem,hix,g2,aD]
   exact congrArg er ih
def wR (op im:Int):List IV:=[.int .i64 op,.int .i64 0,.int .i64 0,.int .i64 0,.int .i64 im]
theorem bCw (op im:Int)(h:1≤op∧op≤25):∃w:Int,TM.Pure K 113 [.iv (.agg (wR op im))] (.tup [.iv (.int .u32 w),.iv (.int .i64 (if loM op≤im∧im≤hiM op then 0 else 11))]):=by
 have c88:=bCv op im h
 obtain⟨fm,d,a,b,ib,c90,c89,h0,h1,h2⟩:=zH op h
 by_cases e:loM op≤im∧im≤hiM op
 ·rw[if_pos e]at c88 ⊢
  have key:=fun w0=>aEt [d,a,b] (by simp) (.iv (.agg (wR op im))) (.lb ((wR op im).map .iv)) (.iv (.int .u32 0)) (.iv (.int .i64 0)) (.iv (.int .i64 0)) (.iv (.bool d)) (.iv (.bool a)) (.iv (.bool b)) (.iv (.int .i64 ib)) (.iv (.bool false)) 3 0 w0 21 u_ u_ u_ (by simp) (by decide) (by decide)
  obtain⟨w',at2,y11,y16,y17,l1⟩:=key (IntKind.u32.wrap (IntKind.u32.wrap op*67108864))
  rw[show ((0:Nat):Int)=0 from rfl,show (([d,a,b].length:Nat):Int)=((3:Nat):Int) from rfl,show (wR op im).map TV.iv=[.iv (.int .i64 op),.iv (.int .i64 0),.iv (.int .i64 0),.iv (.int .i64 0),.iv (.int .i64 im)] from rfl,show wR op im=[.int .i64 op,.int .i64 0,.int .i64 0,.int .i64 0,.int .i64 im] from rfl,show [d,a,b].map aGx=[[.bool d,.int .i64 0],[.bool a,.int .i64 0],[.bool b,.int .i64 0]] from rfl]at l1
  unfold wR
  refine⟨?_,aH t113 rfl rfl ?_⟩
  rotate_left
  ·simp (config := { maxSteps := 4000000 }) (disch:=omega) only[t113,go_sem,aB c90,aB c89,aB c88]
   rw[l1]
   simp (config := { maxSteps := 4000000 }) (disch:=omega) only[go_sem]
   rfl
 ·rw[if_neg e]at c88 ⊢
  refine⟨0,aH t113 rfl rfl ?_⟩
  simp (config := { maxSteps := 4000000 }) (disch:=omega) only[t113,go_sem,wR,aB c88]
def vN (op im:Int):Bool:=decide (1≤op∧op≤25)&&decide (loM op≤im∧im≤hiM op)
theorem bHg (v:VI):TM.Pure K 88 [.iv (.agg (aK v))] (.iv (.bool (vN v.op v.im))):=by
 unfold vN
 by_cases h:1≤v.op∧v.op≤25
 ·obtain⟨w,c82⟩:=bCw v.op v.im h
  rw[decide_eq_true h,Bool.true_and]
  unfold wR at c82
  refine aH t88 rfl rfl ?_
  by_cases e:loM v.op≤v.im∧v.im≤hiM v.op
  ·rw[if_pos e]at c82
   rw[decide_eq_true e]
   simp (config := { maxSteps := 4000000 }) (disch:=omega) only[t88,go_sem,aK,List.map_cons,List.map_nil,aB c82]
  ·rw[if_neg e]at c82
   rw[decide_eq_false e]
   simp (config := { maxSteps := 4000000 }) (disch:=omega) only[t88,go_sem,aK,List.map_cons,List.map_nil,aB c82]
 ·rw[decide_eq_false h,Bool.false_and]
  refine aH t88 rfl rfl ?_
  rcases (by omega:v.op<1∨25<v.op) with h1|h1 <;>
   simp (config := { maxSteps := 4000000 }) (disch:=omega) only[t88,go_sem,aK,List.map_cons,List.map_nil]
def jA (op im:Int):Bool:=vN op im||decide ((26≤op∧op≤31)∨(64≤op∧op≤72))
theorem bHh (v:VI):TM.Pure K 73 [.iv (.agg (aK v))] (.iv (.bool (jA v.op v.im))):=by
 have c68:=bHg v
 unfold jA
 rw[bP]at c68
 refine aH t73 rfl rfl ?_
 generalize vN v.op v.im=p at *
 cases p with
 | true =>
  rw[Bool.true_or]
  simp (config := { maxSteps := 4000000 }) (disch:=omega) only[t73,go_sem,aK,List.map_cons,List.map_nil,aB c68]
 | false =>
  rw[Bool.false_or]
  rcases (by omega:v.op<26∨(26≤v.op∧v.op≤31)∨(31<v.op∧v.op<64)∨(64≤v.op∧v.op≤72)∨72<v.op) with h|h|h|h|h
  ·rw[decide_eq_false (by omega)]; simp (config := { maxSteps := 4000000 }) (disch:=omega) only[t73,go_sem,aK,List.map_cons,List.map_nil,aB c68]
  ·rw[decide_eq_true (by omega)]; simp (config := { maxSteps := 4000000 }) (disch:=omega) only[t73,go_sem,aK,List.map_cons,List.map_nil,aB c68]
  ·rw[decide_eq_false (by omega)]; simp (config := { maxSteps := 4000000 }) (disch:=omega) only[t73,go_sem,aK,List.map_cons,List.map_nil,aB c68]
  ·rw[decide_eq_true (by omega)]; simp (config := { maxSteps := 4000000 }) (disch:=omega) only[t73,go_sem,aK,List.map_cons,List.map_nil,aB c68]
  ·rw[decide_eq_false (by omega)]; simp (config := { maxSteps := 4000000 }) (disch:=omega) only[t73,go_sem,aK,List.map_cons,List.map_nil,aB c68]
theorem bJ2 {S:aA}{j:Nat}{l ys:List Int}{t:Tag}(h:S[j]? = some (.tok l.length 1 3))(hl:l.length+ys.length≤2000000):bI false 1 8 3 S (.tsl j (aT l)) (.iv (.sl t (aT ys)))=some (.tsl j (aT (l++ys)),S.set j (.tok (l.length+ys.length) 1 3)):=by
 have hx:vB S (.iv (.sl t (aT ys))) (aT ys):=vB.sl ..
 have:=aNf (b:=8) hx (tB ys) (tB l) (by rw[eG]; exact h) (cX (by rw[eG,eG]; omega))
 rw[eG,eG,show aT l++aT ys=aT (l++ys) by simp[aT,TM.one]]at this
 exact this
theorem bHi (n:Nat)(h:0<n∧n≤2000000)(S:aA):(lim K).call 30 [.iv (.sl .nil []),.iv (.int .i64 n)] S=.ret (.tsl S.length [],S++[.tok 0 1 3]):=by
 have hr:dZ n 8=true:=cX (by omega)
 have hn:¬(n:Int)≤0:=by omega
 have hg:sI 1 8 3 S (.iv (.sl .nil [])) (n:Int)=some (.rsv S.length [] n,S++[.tok 0 1 3]):=by
  simp[sI,nN,hr,hn,Int.toNat_natCast,show ¬n=0 by omega]
 have h0:∀n:Int,n-(0-((0:Nat):Int))=n:=fun n=>by omega
 have e1:aX6 (zO (.iv (.sl .nil [])))=some (.iv (.int .i64 0)):=id rfl
 have e2:∀S:aA,eL S (.sl 1) (.iv (.sl .nil [])) none (some 0) none=some (.iv (.sl .nil [])):=fun S=>rfl
 have e3:∀(S:aA) (i n:Nat),eL S (.sl 1) (.rsv i [] n) none (some 0) none=some (.tsl i []):=fun S i n=>rfl
 have e4:∀(S:aA) (i n:Nat),eL S (.sl 1) (.rsv i [] n) none (some ((0:Nat):Int)) none=some (.tsl i []):=fun S i n=>rfl
 refine aP K S (fn:=t30) rfl rfl ?_
 simp (config := { maxSteps := 4000000 }) (disch:=omega) only[t30,go_sem,e1,e2,e3,e4,aD,h0,fun env=>bJh (env:=env) hg]
def tH (p:Tag×List Int):List IV:=[.sl p.1 (aT p.2)]
def rI:List (Tag×List Int)→Nat
 | []=>0
 | p::r=>p.2.length+rI r
def zI:List (Tag×List Int)→List Int
 | []=>[]
 | p::r=>p.2++zI r
theorem aGy:∀E:List (Tag×List Int),(zI E).length=rI E
 | []=>rfl
 | p::r=>by rw[zI,rI,List.length_append,aGy r]
theorem bJ3 {E:List (Tag×List Int)}{i:Nat}(h:i<E.length):∃p,E.drop i=p::E.drop (i+1)∧indexAddrS 1 (.iv (.sl .full (E.map tH))) (i:Int)=some (.iv (.cp [.sl p.1 (aT p.2)])):=by
 refine⟨E[i],List.drop_eq_getElem_cons h,?_⟩
 refine aBk (by omega) ?_ rfl
 rw[Int.toNat_natCast,List.getElem?_map,List.getElem?_eq_getElem h]
 rfl
theorem aOc (E:List (Tag×List Int))(hE:E.length≤10)(x1 x4 x5 x10 x11 x12 x13 x14:TV)(S:aA):∀(k i z:Nat) (x3 x9 x10':TV),i+k=E.length→z+rI (E.drop i)≤2000000 →
  ∃y3 y9 y10:TV,lp' (lim K) t13L1 [.iv (.sl .full (E.map tH)),x1,.iv (.int .i64 z),x3,x4,x5,.iv (.sl .full (E.map tH)),.iv (.int .i64 E.length),.iv (.int .i64 i),x9,x10',x11,x12,x13,x14] S
   = .ret (.exit 0,[.iv (.sl .full (E.map tH)),x1,.iv (.int .i64 (z+rI (E.drop i):Nat)),y3,x4,x5,.iv (.sl .full (E.map tH)),.iv (.int .i64 E.length),.iv (.int .i64 E.length),y9,y10,x11,x12,x13,x14],S)
 | 0,i,z,x3,x9,x10',h,hz=>by
  obtain rfl:i=E.length:=by omega
  rw[List.drop_length,rI,Nat.add_zero]
  refine⟨x3,.iv (.bool false),x10',aF K _ _ t13L1.eq_1 ?_⟩
  simp (config := { maxSteps := 4000000 }) (disch:=omega) only[go_sem]
 | k+1,i,z,x3,x9,x10',h,hz=>by
  have hla:i<E.length:=by omega
  obtain⟨p,hdr,hix⟩:=bJ3 hla
  rw[hdr,rI]at hz ⊢
  obtain⟨y3,y9,y10,ih⟩:=aOc E hE x1 x4 x5 x10 x11 x12 x13 x14 S k (i+1) (z+p.2.length) (.iv (.sl p.1 (aT p.2))) (.iv (.bool true)) (.iv (.bool false)) (by omega) (by omega)
  rw[show ((i+1:Nat):Int)=(i:Int)+1 by omega,show ((z+p.2.length:Nat):Int)=(z:Int)+(p.2.length:Int) by omega,Nat.add_assoc]at ih
  refine⟨y3,y9,y10,aF K _ _ t13L1.eq_1 ?_⟩
  simp (config := { maxSteps := 4000000 }) (disch:=omega) only[go_sem,hix,eG,aD]
  exact congrArg er ih
theorem aOd (E:List (Tag×List Int))(hE:E.length≤10)(j:Nat)(x1 x2 x3 x6 x7 x8 x9 x10:TV):∀(k i:Nat) (l:List Int) (S:aA) (x5 x14:TV),i+k=E.length→S[j]? = some (.tok l.length 1 3)→l.length+rI (E.drop i)≤2000000 →
  ∃y5 y14:TV,lp' (lim K) t13L0 [.iv (.sl .full (E.map tH)),x1,x2,x3,.tsl j (aT l),x5,x6,x7,x8,x9,x10,.iv (.sl .full (E.map tH)),.iv (.int .i64 E.length),.iv (.int .i64 i),x14] S
   = .ret (.exit 2,[.iv (.sl .full (E.map tH)),x1,x2,x3,.tsl j (aT (l++zI (E.drop i))),y5,x6,x7,x8,x9,x10,.iv (.sl .full (E.map tH)),.iv (.int .i64 E.length),.iv (.int .i64 E.length),y14],S.set j (.tok (l.length+rI (E.drop i)) 1 3))
 | 0,i,l,S,x5,x14,h,hS,hz=>by
  obtain rfl:i=E.length:=by omega
  rw[List.drop_length,rI,zI,Nat.add_zero,List.append_nil,mO hS]
  refine⟨x5,.iv (.bool false),aF K _ _ t13L0.eq_1 ?_⟩
  simp (config := { maxSteps := 4000000 }) (disch:=omega) only[go_sem]
 | k+1,i,l,S,x5,x14,h,hS,hz=>by
  have hla:i<E.length:=by omega
  obtain⟨p,hdr,hix⟩:=bJ3 hla
  rw[hdr,rI]at hz ⊢
  rw[zI]
  have ha:=bJ2 (ys:=p.2) (t:=p.1) hS (by omega)
  obtain⟨y5,y14,ih⟩:=aOd E hE j x1 x2 x3 x6 x7 x8 x9 x10 k (i+1) (l++p.2) (S.set j (.tok (l.length+p.2.length) 1 3)) (.iv (.sl p.1 (aT p.2))) (.iv (.bool true)) (by omega) (by rw[bE (cW hS),List.length_append]) (by rw[List.length_append]; omega)
  rw[show ((i+1:Nat):Int)=(i:Int)+1 by omega,List.set_set,List.length_append,List.append_assoc,Nat.add_assoc]at ih
  refine⟨y5,y14,aF K _ _ t13L0.eq_1 ?_⟩
  simp (config := { maxSteps := 4000000 }) (disch:=omega) only[go_sem,hix,ha,aD]
  exact congrArg er ih
theorem aVg (E:List (Tag×List Int))(hE:E.length≤10)(h0:0<rI E)(hz:rI E≤2000000)(S:aA):(lim K).call 13 [.iv (.sl .full (E.map tH))] S=.ret (.tsl S.length (aT (zI E)),S++[.tok (zI E).length 1 3]):=by
 obtain⟨y3,y9,y10,l1⟩:=aOc E hE (.iv (.sl .nil [])) u_ u_ u_ u_ u_ u_ u_ S E.length 0 0 u_ u_ u_ (by omega) (by simpa using hz)
 rw[List.drop_zero,Nat.zero_add,show ((0:Nat):Int)=0 from rfl]at l1
 have c67:=bHi (rI E) ⟨h0,hz⟩ S
 have hS:(S++[.tok 0 1 3])[S.length]? = some (.tok ([]:List Int).length 1 3):=by simp
 obtain⟨y5,y14,l2⟩:=aOd E hE S.length (.iv (.sl .nil [])) (.iv (.int .i64 (rI E:Nat))) y3 (.iv (.sl .full (E.map tH))) (.iv (.int .i64 E.length)) (.iv (.int .i64 E.length)) y9 y10 E.length 0 [] _ u_ u_ (by omega) hS (by simpa using hz)
 rw[List.drop_zero,List.nil_append,show ((0:Nat):Int)=0 from rfl,show aT []=[] from rfl,List.set_append_right _ _ (Nat.le_refl _),Nat.sub_self,List.set_cons_zero,List.length_nil,Nat.zero_add]at l2
 rw[aGy]
 refine aP K S (fn:=t13) rfl rfl ?_
 have hl:(E.map tH).length=E.length:=List.length_map _
 simp (config := { maxSteps := 4000000 }) (disch:=omega) only[t13,go_sem,hl]
 rw[l1]
 simp (config := { maxSteps := 4000000 }) (disch:=omega) only[go_sem,c67,hl]
 rw[l2]
 simp (config := { maxSteps := 4000000 }) (disch:=omega) only[go_sem]
def bxF (fn rg sl nd pr:Int)(rs:Bool)(ti:Tag)(ins:List VI):aG:=.cells 25 false [.iv (.int .i64 fn),.iv (.int .i64 rg),.iv (.int .i64 sl),.iv (.int .i64 nd),.iv (.int .i64 pr),.iv (.bool rs),.iv (.sl ti (ins.map aK))]
theorem bHj {fn rg sl nd pr:Int}{rs:Bool}{ti:Tag}{ins:List VI}{S:aA}(h:S[0]? = some (bxF fn rg sl nd pr rs ti ins))(x:Int):(lim K).call 75 [.iv (.int .i64 x),.ptr 0 25 0] S=.ret (.iv (.bool (decide (x<0∨rg≤x))),S):=by
 unfold bxF at h
 refine aP K S (fn:=t75) rfl rfl ?_
 rcases (by omega:x<0∨(0≤x∧rg≤x)∨(0≤x∧x<rg)) with h1|h1|h1
 ·rw[decide_eq_true (.inl h1)]; simp (config := { maxSteps := 4000000 }) (disch:=omega) only[t75,go_sem,h]
 ·rw[decide_eq_true (.inr h1.2)]; simp (config := { maxSteps := 4000000 }) (disch:=omega) only[t75,go_sem,h]
 ·rw[decide_eq_false (by omega)]; simp (config := { maxSteps := 4000000 }) (disch:=omega) only[t75,go_sem,h]
theorem bJ4 {j:Nat}{l:List Int}{i:Nat}(h:i<l.length):indexAddrS 1 (.tsl j (aT l)) (i:Int)=some (.iv (.cp [.int .i64 (l.getD i 0)])):=by
 have h1:=jZ (f:=IV.int .i64) (t:=.no) (l:=l) (i:=(i:Int)) (by omega)
 rw[Int.toNat_natCast]at h1
 exact h1
def aZ (rg x:Int):Bool:=decide (x<0∨rg≤x)
theorem aOe {fn rg sl nd pr:Int}{rs:Bool}{ti:Tag}{ins:List VI}{S:aA}(h:S[0]? = some (bxF fn rg sl nd pr rs ti ins))(j:Nat)(l:List Int)(hl:l.length≤3000000):∀(k i:Nat) (x2 x3 x6 x7:TV),i+k=l.length→(∀x∈l.take i,aZ rg x=false) →
  ∃(jj:aU) (y2 y3 y5 y6 y7:TV),lp' (lim K) t45L0 [.tsl j (aT l),.fn 75 [] [.ptr 0 25 0],x2,x3,.iv (.int .i64 l.length),.iv (.int .i64 i),x6,x7] S
   = .ret (jj,[.tsl j (aT l),.fn 75 [] [.ptr 0 25 0],y2,y3,.iv (.int .i64 l.length),y5,y6,y7],S) ∧
   (jj=.exit 0∧l.any (aZ rg)=false∨jj=.ret∧l.any (aZ rg)=true∧∃q:Nat,y2=.iv (.int .i64 q))
 | 0,i,x2,x3,x6,x7,hk,hq=>by
  obtain rfl:i=l.length:=by omega
  rw[List.take_length]at hq
  refine⟨.exit 0,x2,x3,.iv (.int .i64 l.length),.iv (.bool false),x7,aF K _ _ t45L0.eq_1 ?_,.inl ⟨rfl,?_⟩⟩
  ·simp (config := { maxSteps := 4000000 }) (disch:=omega) only[go_sem]
  ·rw[List.any_eq_false]
   intro x hx; rw[hq x hx]; simp
 | k+1,i,x2,x3,x6,x7,hk,hq=>by
  have hla:i<l.length:=by omega
  have i1:=bJ4 (j:=j) hla
  have c48:=bHj h (l.getD i 0)
  have hts:=nX hla
  cases hd:aZ rg (l.getD i 0) with
  | true =>
   rw[show decide (l.getD i 0<0∨rg≤l.getD i 0)=true from hd]at c48
   refine⟨.ret,.iv (.int .i64 i),.iv (.int .i64 i),.iv (.int .i64 i),.iv (.bool true),.iv (.bool true),aF K _ _ t45L0.eq_1 ?_,.inr ⟨rfl,List.any_eq_true.2 ⟨_,yZ hla,hd⟩,i,rfl⟩⟩
   simp (config := { maxSteps := 4000000 }) (disch:=omega) only[go_sem,i1,c48]
  | false =>
   rw[show decide (l.getD i 0<0∨rg≤l.getD i 0)=false from hd]at c48
   obtain⟨jj,y2,y3,y5,y6,y7,ih,hj⟩:=aOe h j l hl k (i+1) x2 (.iv (.int .i64 i)) (.iv (.bool true)) (.iv (.bool false)) (by omega) (fun x hx=>by
    rw[hts,List.mem_append,List.mem_singleton]at hx
    rcases hx with hx|rfl
    ·exact hq x hx
    ·exact hd)
   rw[show ((i+1:Nat):Int)=(i:Int)+1 by omega]at ih
   refine⟨jj,y2,y3,y5,y6,y7,aF K _ _ t45L0.eq_1 ?_,hj⟩
   simp (config := { maxSteps := 4000000 }) (disch:=omega) only[go_sem,i1,c48,aD]
   exact congrArg er ih
theorem aVh {fn rg sl nd pr:Int}{rs:Bool}{ti:Tag}{ins:List VI}{S:aA}(h:S[0]? = some (bxF fn rg sl nd pr rs ti ins))(j:Nat)(l:List Int)(hl:l.length≤3000000):(lim K).call 74 [.tsl j (aT l),.fn 75 [] [.ptr 0 25 0]] S=.ret (.iv (.bool (l.any (aZ rg))),S):=by
 obtain⟨jj,y2,y3,y5,y6,y7,l1,hj⟩:=aOe h j l hl l.length 0 (.iv (.int .i64 0)) u_ u_ u_ (by omega) (by simp)
 rw[show ((0:Nat):Int)=0 from rfl]at l1
 have hll:(aT l).length=l.length:=eG l
 rcases hj with⟨rfl,hj⟩|⟨rfl,hj,q,rfl⟩
 ·have c42:(lim K).call 45 [.tsl j (aT l),.fn 75 [] [.ptr 0 25 0]] S=.ret (.iv (.int .i64 (-1)),S):=by
   refine aP K S (fn:=t45) rfl rfl ?_
   simp (config := { maxSteps := 4000000 }) (disch:=omega) only[t45,go_sem,hll]
   rw[l1]
   simp (config := { maxSteps := 4000000 }) (disch:=omega) only[go_sem]
  rw[hj]
  refine aP K S (fn:=t74) rfl rfl ?_
  simp (config := { maxSteps := 4000000 }) (disch:=omega) only[t74,go_sem,c42]
 ·have c42:(lim K).call 45 [.tsl j (aT l),.fn 75 [] [.ptr 0 25 0]] S=.ret (.iv (.int .i64 q),S):=by
   refine aP K S (fn:=t45) rfl rfl ?_
   simp (config := { maxSteps := 4000000 }) (disch:=omega) only[t45,go_sem,hll]
   rw[l1]
   simp (config := { maxSteps := 4000000 }) (disch:=omega) only[go_sem]
  rw[hj]
  refine aP K S (fn:=t74) rfl rfl ?_
  simp (config := { maxSteps := 4000000 }) (disch:=omega) only[t74,go_sem,c42]
theorem dI (l:List (Nat×Int×Int))(c:Nat)(k:Int):lkB (.leaf .int) (.int .i64 0) false (some (.mp (mpR vI l) c)) (.iv (.int .i64 k))=some (.iv (.int .i64 (nJ l k))):=by
 rw[aNm]
 simp only[nJ,Bool.false_eq_true,↓reduceIte]
 cases gN l k<;>rfl
theorem bHk (l:List (Nat×Int×Int))(c:Nat)(env:Env)(S:aA)(j:Nat)(k a:Int):upB (.leaf .int) env S j (some (.mp (mpR vI l) c)) (.iv (.int .i64 k)) (.iv (.int .i64 a))=some (TM.undef,env,S.set j (.mp (mpR vI (rL l c k a)) (aNl l c k))) :=
 bA6 vI l c env S j k a rfl rfl
def gO (l:List VI)(L:Int):Int:=((l.filter fun x=>decide (x.op=65)&&decide (x.lb=L)).length:Nat)
theorem aC2 (l:List VI)(x:VI)(L:Int):gO (l++[x]) L=if x.op=65∧x.lb=L then gO l L+1 else gO l L:=by
 unfold gO
 rw[List.filter_append,List.length_append]
 by_cases e:x.op=65∧x.lb=L
 ·rw[if_pos e]; simp[e]
 ·rw[if_neg e]
  have:(decide (x.op=65)&&decide (x.lb=L))=false:=by
   cases h1:(decide (x.op=65)&&decide (x.lb=L)) with
   | false=>rfl
   | true=>simp at h1; exact absurd h1 e
  simp[List.filter_cons,this]
theorem aOf (l:List VI)(L:Int):0≤gO l L∧gO l L≤l.length:=by
 unfold gO
 have:=List.length_filter_le (fun x:VI=>decide (x.op=65)&&decide (x.lb=L)) l
 omega
theorem aEu {fn rg sl nd pr:Int}{rs:Bool}{ti:Tag}{ins:List VI}(hn:ins.length≤1000000)(x0 x1 x2 x5 x6 x7 x8 x14 x15 x16 x17 x18 x19 x20 x21:TV):∀(k i:Nat) (S:aA) (rows:List (Nat×Int×Int)) (c:Nat) (x4 x12 x13:TV),i+k=ins.length→S[0]? = some (bxF fn rg sl nd pr rs ti ins)→S[1]? = some (.mp (mpR vI rows) c)→(∀L,nJ rows L=gO (ins.take i) L) →
  ∃(S':aA) (rows':List (Nat×Int×Int)) (c':Nat) (y4 y12 y13:TV),lp' (lim K) t54L1 [x0,x1,x2,.map 1,x4,x5,x6,x7,x8,.iv (.sl ti (ins.map aK)),.iv (.int .i64 ins.length),.iv (.int .i64 i),x12,x13,x14,x15,x16,x17,x18,x19,x20,x21] S
   = .ret (.exit 0,[x0,x1,x2,.map 1,y4,x5,x6,x7,x8,.iv (.sl ti (ins.map aK)),.iv (.int .i64 ins.length),.iv (.int .i64 ins.length),y12,y13,x14,x15,x16,x17,x18,x19,x20,x21],S') ∧
   S'[0]? = some (bxF fn rg sl nd pr rs ti ins)∧S'[1]? = some (.mp (mpR vI rows') c')∧∀L,nJ rows' L=gO ins L
 | 0,i,S,rows,c,x4,x12,x13,h,h0,h1,hc=>by
  obtain rfl:i=ins.length:=by omega
  rw[List.take_length]at hc
  refine⟨S,rows,c,x4,.iv (.bool false),x13,aF K _ _ t54L1.eq_1 ?_,h0,h1,hc⟩
  simp (config := { maxSteps := 4000000 }) (disch:=omega) only[go_sem]
 | k+1,i,S,rows,c,x4,x12,x13,h,h0,h1,hc=>by
  have hla:i<ins.length:=by omega
  have hix:=gJ (w:=8) (f:=aK) eQ (t:=ti) (l:=ins) (i:=(i:Int)) (by omega)
  rw[Int.toNat_natCast]at hix
  have hts:ins.take (i+1)=ins.take i++[ins.getD i default]:=by
   rw[List.take_add_one,List.getElem?_eq_getElem hla]
   simp[List.getD,List.getElem?_eq_getElem hla]
  have hsn:=fun L=>aC2 (ins.take i) (ins.getD i default) L
  rw[←hts]at hsn
  have hle:=aOf (ins.take i) (ins.getD i default).lb
  rw[List.length_take]at hle
  generalize ins.getD i default=x at *
  rw[bP]at hix
  by_cases hop:x.op=65
  ·obtain⟨S',rows',c',y4,y12,y13,ih,hx⟩:=aEu (fn:=fn) (rg:=rg) (sl:=sl) (nd:=nd) (pr:=pr) (rs:=rs) (ti:=ti) hn x0 x1 x2 x5 x6 x7 x8 x14 x15 x16 x17 x18 x19 x20 x21 k (i+1) (S.set 1 (.mp (mpR vI (rL rows c x.lb (nJ rows x.lb+1))) (aNl rows c x.lb))) _ _ (.lb ((aK x).map .iv)) (.iv (.bool true)) (.iv (.bool true)) (by omega) (by rw[aL (by decide)]; exact h0) (bE (cW h1) _) (fun L=>by
    rw[hsn L]
    unfold nJ
    rw[aBr]
    by_cases e:x.lb=L
    ·subst e
     rw[if_pos rfl,if_pos ⟨hop,rfl⟩,←hc]; rfl
    ·rw[if_neg e,if_neg (fun h=>e h.2),←hc]; rfl)
   rw[show ((i+1:Nat):Int)=(i:Int)+1 by omega,aY]at ih
   refine⟨S',rows',c',y4,y12,y13,aF K _ _ t54L1.eq_1 ?_,hx⟩
   have hc2:=hc x.lb
   have hw:IntKind.i64.wrap (nJ rows x.lb+1)=nJ rows x.lb+1:=aD (by omega)
   simp (config := { maxSteps := 4000000 }) (disch:=omega) only[go_sem,hix,h1,dI,bHk,hw,aD]
   exact congrArg er ih
  ·obtain⟨S',rows',c',y4,y12,y13,ih,hx⟩:=aEu (fn:=fn) (rg:=rg) (sl:=sl) (nd:=nd) (pr:=pr) (rs:=rs) (ti:=ti) hn x0 x1 x2 x5 x6 x7 x8 x14 x15 x16 x17 x18 x19 x20 x21 k (i+1) S rows c (.lb ((aK x).map .iv)) (.iv (.bool true)) (.iv (.bool false)) (by omega) h0 h1 (fun L=>by
    rw[hsn L,if_neg (fun h=>hop h.1)]; exact hc L)
   rw[show ((i+1:Nat):Int)=(i:Int)+1 by omega,aY]at ih
   refine⟨S',rows',c',y4,y12,y13,aF K _ _ t54L1.eq_1 ?_,hx⟩
   simp (config := { maxSteps := 4000000 }) (disch:=omega) only[go_sem,hix,aD]
   exact congrArg er ih
def dC (x:VI):List Int:=x.a::x.b::x.us++(if x.op≠67∨0≤x.d then [x.d] else [])
def eU (x:VI):Bool:=decide (26≤x.op∧x.op≤31)||decide (x.op=66)||decide (x.op=65)
def pK (rg:Int)(ins:List VI)(x:VI):Bool:=!jA x.op x.im||((dC x).any (aZ rg)||(eU x&&decide (gO ins x.lb≠1)))
theorem aOg {fn rg sl nd pr:Int}{rs:Bool}{ti:Tag}{ins:List VI}(hn:ins.length≤1000000)(hus:∀x∈ins,x.us.length≤999990∧bN x.tu x.us){rows:List (Nat×Int×Int)}{c:Nat}(hc:∀L,nJ rows L=gO ins L)(x0 x4 x8 x9 x10 x11 x12 x13 x20 x21:TV):∀(k i:Nat) (S:aA) (x2 x5 x6 x7 x17 x18 x19:TV),i+k=ins.length→S[0]? = some (bxF fn rg sl nd pr rs ti ins)→S[1]? = some (.mp (mpR vI rows) c) →
  ∃(S':aA) (jj:aU) (y2 y5 y6 y7 y16 y17 y18 y19:TV),lp' (lim K) t54L0 [x0,.ptr 0 25 0,x2,.map 1,x4,x5,x6,x7,x8,x9,x10,x11,x12,x13,.iv (.sl ti (ins.map aK)),.iv (.int .i64 ins.length),.iv (.int .i64 i),x17,x18,x19,x20,x21] S
   = .ret (jj,[x0,.ptr 0 25 0,y2,.map 1,x4,y5,y6,y7,x8,x9,x10,x11,x12,x13,.iv (.sl ti (ins.map aK)),.iv (.int .i64 ins.length),y16,y17,y18,y19,x20,x21],S') ∧
   S'[0]? = some (bxF fn rg sl nd pr rs ti ins)∧(jj=.exit 2∧(ins.drop i).any (pK rg ins)=false∨jj=.ret∧y2=.iv (.int .i64 2)∧(ins.drop i).any (pK rg ins)=true)
 | 0,i,S,x2,x5,x6,x7,x17,x18,x19,h,h0,h1=>by
  obtain rfl:i=ins.length:=by omega
  rw[List.drop_length]
  refine⟨S,.exit 2,x2,x5,x6,x7,.iv (.int .i64 ins.length),.iv (.bool false),x18,x19,aF K _ _ t54L0.eq_1 ?_,h0,.inl ⟨rfl,rfl⟩⟩
  simp (config := { maxSteps := 4000000 }) (disch:=omega) only[go_sem]
 | k+1,i,S,x2,x5,x6,x7,x17,x18,x19,h,h0,h1=>by
  have hla:i<ins.length:=by omega
  have hix:=gJ (w:=8) (f:=aK) eQ (t:=ti) (l:=ins) (i:=(i:Int)) (by omega)
  rw[Int.toNat_natCast]at hix
  have hdr:=eX hla
  obtain⟨hu1,hu2⟩:=hus (ins.getD i default) (by simp only[List.getD,List.getElem?_eq_getElem hla,Option.getD_some]; exact List.getElem_mem _)
  have c46:=bHh (ins.getD i default)
  have ihs:=fun S x2 x5 x6 x7 x17 x18 x19=>aOg (fn:=fn) (rg:=rg) (sl:=sl) (nd:=nd) (pr:=pr) (rs:=rs) (ti:=ti) (c:=c) hn hus hc x0 x4 x8 x9 x10 x11 x12 x13 x20 x21 k (i+1) S x2 x5 x6 x7 x17 x18 x19 (by omega)
  rw[hdr,List.any_cons]
  have hcx:=hc (ins.getD i default).lb
  generalize ins.getD i default=x at *
  have c45:=aVg [(.full,[x.a,x.b]),(x.tu,x.us)] (by simp) (show 0<2+(x.us.length+0) by omega) (show 2+(x.us.length+0)≤2000000 by omega) S
  have hcat:zI [(.full,[x.a,x.b]),(x.tu,x.us)]=x.a::x.b::x.us:=by simp[zI]
  rw[hcat,show [((.full:Tag),[x.a,x.b]),(x.tu,x.us)].map tH=[[.sl .full [[.int .i64 x.a],[.int .i64 x.b]]],[.sl x.tu (TM.one (.int .i64) x.us)]] from rfl]at c45
  have hS1:(S++[aG.tok (x.a::x.b::x.us).length 1 3])[S.length]? = some (.tok (x.a::x.b::x.us).length 1 3):=by simp
  have ha:=bJ2 (ys:=[x.d]) (t:=.full) hS1 (by simp; omega)
  rw[show aT [x.d]=[[.int .i64 x.d]] from rfl]at ha
  have k1:iE [] S (S++[aG.tok (x.a::x.b::x.us).length 1 3]):=iE.app _ _ _
  have n0:0<S.length:=cW h0
  have n1:1<S.length:=cW h1
  have z0:=aX h0 [aG.tok (x.a::x.b::x.us).length 1 3]
  have z1:=aX h1 [aG.tok (x.a::x.b::x.us).length 1 3]
  have z0':((S++[aG.tok (x.a::x.b::x.us).length 1 3]).set S.length (aG.tok ((x.a::x.b::x.us).length+[x.d].length) 1 3))[0]? = some (bxF fn rg sl nd pr rs ti ins):=by rw[aL (by omega)]; exact z0
  have z1':((S++[aG.tok (x.a::x.b::x.us).length 1 3]).set S.length (aG.tok ((x.a::x.b::x.us).length+[x.d].length) 1 3))[1]? = some (.mp (mpR vI rows) c):=by rw[aL (by omega)]; exact z1
  have c47:=aVh z0 S.length (x.a::x.b::x.us) (by simp; omega)
  have c47':=aVh z0' S.length ((x.a::x.b::x.us)++[x.d]) (by simp; omega)
  rw[bP]at hix c46
  have hbad:pK rg ins x=(!jA x.op x.im||((dC x).any (aZ rg)||(eU x&&decide (gO ins x.lb≠1)))):=rfl
  rw[hbad]
  generalize hfm:jA x.op x.im=fm at *
  generalize hcn:gO ins x.lb=cn at *
  generalize hR1:(x.a::x.b::x.us:List Int)=R1 at *
  generalize hT1:S++[aG.tok R1.length 1 3]=T1 at *
  generalize hT2:T1.set S.length (.tok (R1.length+[x.d].length) 1 3)=T2 at *
  by_cases hA:x.op=67∧x.d<0
  ·obtain⟨hA1,hA2⟩:=hA
   have hr:dC x=R1:=by rw[←hR1]; unfold dC; rw[if_neg (by omega),List.append_nil]
   have hg:eU x=false:=by unfold eU; simp; omega
   rw[hr,hg]
   generalize (R1).any (aZ rg)=an at *
   cases fm with
   | false =>
    refine⟨T1,.ret,.iv (.int .i64 2),.lb ((aK x).map .iv),.tsl S.length (aT (R1)),.iv (.bool false),.iv (.int .i64 i),.iv (.bool true),.iv (.bool false),.iv (.bool true),aF K _ _ t54L0.eq_1 ?_,z0,.inr ⟨rfl,rfl,rfl⟩⟩
    rw[aY]
    simp (config := { maxSteps := 4000000 }) (disch:=omega) only[go_sem,hix,c45,ha,aB c46,z1,dI,c47,hcx,aD]
   | true =>
    cases an with
    | true =>
     refine⟨T1,.ret,.iv (.int .i64 2),.lb ((aK x).map .iv),.tsl S.length (aT (R1)),.iv (.bool false),.iv (.int .i64 i),.iv (.bool true),.iv (.bool false),.iv (.bool true),aF K _ _ t54L0.eq_1 ?_,z0,.inr ⟨rfl,rfl,rfl⟩⟩
     rw[aY]
     simp (config := { maxSteps := 4000000 }) (disch:=omega) only[go_sem,hix,c45,ha,aB c46,z1,dI,c47,hcx,aD]
    | false =>
     obtain⟨S',jj,y2,y5,y6,y7,y16,y17,y18,y19,ih,hz,hj⟩:=ihs T1 x2 (.lb ((aK x).map .iv)) (.tsl S.length (aT (R1))) (.iv (.bool false)) (.iv (.bool true)) (.iv (.bool false)) (.iv (.bool false)) z0 z1
     rw[show ((i+1:Nat):Int)=(i:Int)+1 by omega,aY]at ih
     refine⟨S',jj,y2,y5,y6,y7,y16,y17,y18,y19,aF K _ _ t54L0.eq_1 ?_,hz,?_⟩
     ·simp (config := { maxSteps := 4000000 }) (disch:=omega) only[go_sem,hix,c45,ha,aB c46,z1,dI,c47,hcx,aD]
      exact congrArg er ih
     ·simpa  using hj
  ·have hD:x.op≠67∨0≤x.d:=by omega
   by_cases hB:x.op=67
   ·have hB2:0≤x.d:=by omega
    have hr:dC x=R1++[x.d]:=by rw[←hR1]; unfold dC; rw[if_pos hD]
    have hg:eU x=false:=by unfold eU; simp; omega
    rw[hr,hg]
    generalize (R1++[x.d]).any (aZ rg)=an at *
    cases fm with
    | false =>
     refine⟨T2,.ret,.iv (.int .i64 2),.lb ((aK x).map .iv),.tsl S.length (aT (R1++[x.d])),.iv (.bool false),.iv (.int .i64 i),.iv (.bool true),.iv (.bool true),.iv (.bool true),aF K _ _ t54L0.eq_1 ?_,z0',.inr ⟨rfl,rfl,rfl⟩⟩
     rw[aY]
     simp (config := { maxSteps := 4000000 }) (disch:=omega) only[go_sem,hix,c45,ha,aB c46,z1',dI,c47',hcx,aD]
    | true =>
     cases an with
     | true =>
      refine⟨T2,.ret,.iv (.int .i64 2),.lb ((aK x).map .iv),.tsl S.length (aT (R1++[x.d])),.iv (.bool false),.iv (.int .i64 i),.iv (.bool true),.iv (.bool true),.iv (.bool true),aF K _ _ t54L0.eq_1 ?_,z0',.inr ⟨rfl,rfl,rfl⟩⟩
      rw[aY]
      simp (config := { maxSteps := 4000000 }) (disch:=omega) only[go_sem,hix,c45,ha,aB c46,z1',dI,c47',hcx,aD]
     | false =>
      obtain⟨S',jj,y2,y5,y6,y7,y16,y17,y18,y19,ih,hz,hj⟩:=ihs T2 x2 (.lb ((aK x).map .iv)) (.tsl S.length (aT (R1++[x.d]))) (.iv (.bool false)) (.iv (.bool true)) (.iv (.bool true)) (.iv (.bool false)) z0' z1'
      rw[show ((i+1:Nat):Int)=(i:Int)+1 by omega,aY]at ih
      refine⟨S',jj,y2,y5,y6,y7,y16,y17,y18,y19,aF K _ _ t54L0.eq_1 ?_,hz,?_⟩
      ·simp (config := { maxSteps := 4000000 }) (disch:=omega) only[go_sem,hix,c45,ha,aB c46,z1',dI,c47',hcx,aD]
       exact congrArg er ih
      ·simpa  using hj
   ·rcases (by omega:x.op<26∨(26≤x.op∧x.op≤31)∨(31<x.op∧x.op<65)∨x.op=65∨x.op=66∨67<x.op) with hC|hC|hC|hC|hC|hC
    ·have hr:dC x=R1++[x.d]:=by rw[←hR1]; unfold dC; rw[if_pos hD]
     have hg:eU x=false:=by unfold eU; simp; omega
     rw[hr,hg]
     generalize (R1++[x.d]).any (aZ rg)=an at *
     cases fm with
     | false =>
      refine⟨T2,.ret,.iv (.int .i64 2),.lb ((aK x).map .iv),.tsl S.length (aT (R1++[x.d])),.iv (.bool false),.iv (.int .i64 i),.iv (.bool true),.iv (.bool true),.iv (.bool true),aF K _ _ t54L0.eq_1 ?_,z0',.inr ⟨rfl,rfl,rfl⟩⟩
      rw[aY]
      simp (config := { maxSteps := 4000000 }) (disch:=omega) only[go_sem,hix,c45,ha,aB c46,z1',dI,c47',hcx,aD]
     | true =>
      cases an with
      | true =>
       refine⟨T2,.ret,.iv (.int .i64 2),.lb ((aK x).map .iv),.tsl S.length (aT (R1++[x.d])),.iv (.bool false),.iv (.int .i64 i),.iv (.bool true),.iv (.bool true),.iv (.bool true),aF K _ _ t54L0.eq_1 ?_,z0',.inr ⟨rfl,rfl,rfl⟩⟩
       rw[aY]
       simp (config := { maxSteps := 4000000 }) (disch:=omega) only[go_sem,hix,c45,ha,aB c46,z1',dI,c47',hcx,aD]
      | false =>
       obtain⟨S',jj,y2,y5,y6,y7,y16,y17,y18,y19,ih,hz,hj⟩:=ihs T2 x2 (.lb ((aK x).map .iv)) (.tsl S.length (aT (R1++[x.d]))) (.iv (.bool false)) (.iv (.bool true)) (.iv (.bool true)) (.iv (.bool false)) z0' z1'
       rw[show ((i+1:Nat):Int)=(i:Int)+1 by omega,aY]at ih
       refine⟨S',jj,y2,y5,y6,y7,y16,y17,y18,y19,aF K _ _ t54L0.eq_1 ?_,hz,?_⟩
       ·simp (config := { maxSteps := 4000000 }) (disch:=omega) only[go_sem,hix,c45,ha,aB c46,z1',dI,c47',hcx,aD]
        exact congrArg er ih
       ·simpa  using hj
    ·have hr:dC x=R1++[x.d]:=by rw[←hR1]; unfold dC; rw[if_pos hD]
     have hg:eU x=true:=by unfold eU; simp; omega
     rw[hr,hg]
     generalize (R1++[x.d]).any (aZ rg)=an at *
     cases fm with
     | false =>
      refine⟨T2,.ret,.iv (.int .i64 2),.lb ((aK x).map .iv),.tsl S.length (aT (R1++[x.d])),.iv (.bool true),.iv (.int .i64 i),.iv (.bool true),.iv (.bool true),.iv (.bool true),aF K _ _ t54L0.eq_1 ?_,z0',.inr ⟨rfl,rfl,rfl⟩⟩
      rw[aY]
      simp (config := { maxSteps := 4000000 }) (disch:=omega) only[go_sem,hix,c45,ha,aB c46,z1',dI,c47',hcx,aD]
     | true =>
      cases an with
      | true =>
       refine⟨T2,.ret,.iv (.int .i64 2),.lb ((aK x).map .iv),.tsl S.length (aT (R1++[x.d])),.iv (.bool true),.iv (.int .i64 i),.iv (.bool true),.iv (.bool true),.iv (.bool true),aF K _ _ t54L0.eq_1 ?_,z0',.inr ⟨rfl,rfl,rfl⟩⟩
       rw[aY]
       simp (config := { maxSteps := 4000000 }) (disch:=omega) only[go_sem,hix,c45,ha,aB c46,z1',dI,c47',hcx,aD]
      | false =>
       by_cases hc1:cn=1
       ·subst hc1
        obtain⟨S',jj,y2,y5,y6,y7,y16,y17,y18,y19,ih,hz,hj⟩:=ihs T2 x2 (.lb ((aK x).map .iv)) (.tsl S.length (aT (R1++[x.d]))) (.iv (.bool true)) (.iv (.bool true)) (.iv (.bool true)) (.iv (.bool false)) z0' z1'
        rw[show ((i+1:Nat):Int)=(i:Int)+1 by omega,aY]at ih
        refine⟨S',jj,y2,y5,y6,y7,y16,y17,y18,y19,aF K _ _ t54L0.eq_1 ?_,hz,?_⟩
        ·simp (config := { maxSteps := 4000000 }) (disch:=omega) only[go_sem,hix,c45,ha,aB c46,z1',dI,c47',hcx,aD]
         exact congrArg er ih
        ·simpa  using hj
       ·refine⟨T2,.ret,.iv (.int .i64 2),.lb ((aK x).map .iv),.tsl S.length (aT (R1++[x.d])),.iv (.bool true),.iv (.int .i64 i),.iv (.bool true),.iv (.bool true),.iv (.bool true),aF K _ _ t54L0.eq_1 ?_,z0',.inr ⟨rfl,rfl,by simp[hc1]⟩⟩
        rw[aY]
        simp (config := { maxSteps := 4000000 }) (disch:=omega) only[go_sem,hix,c45,ha,aB c46,z1',dI,c47',hcx,aD]
    ·have hr:dC x=R1++[x.d]:=by rw[←hR1]; unfold dC; rw[if_pos hD]
     have hg:eU x=false:=by unfold eU; simp; omega
     rw[hr,hg]
     generalize (R1++[x.d]).any (aZ rg)=an at *
     cases fm with
     | false =>
      refine⟨T2,.ret,.iv (.int .i64 2),.lb ((aK x).map .iv),.tsl S.length (aT (R1++[x.d])),.iv (.bool false),.iv (.int .i64 i),.iv (.bool true),.iv (.bool true),.iv (.bool true),aF K _ _ t54L0.eq_1 ?_,z0',.inr ⟨rfl,rfl,rfl⟩⟩
      rw[aY]
      simp (config := { maxSteps := 4000000 }) (disch:=omega) only[go_sem,hix,c45,ha,aB c46,z1',dI,c47',hcx,aD]
     | true =>
      cases an with
      | true =>
       refine⟨T2,.ret,.iv (.int .i64 2),.lb ((aK x).map .iv),.tsl S.length (aT (R1++[x.d])),.iv (.bool false),.iv (.int .i64 i),.iv (.bool true),.iv (.bool true),.iv (.bool true),aF K _ _ t54L0.eq_1 ?_,z0',.inr ⟨rfl,rfl,rfl⟩⟩
       rw[aY]
       simp (config := { maxSteps := 4000000 }) (disch:=omega) only[go_sem,hix,c45,ha,aB c46,z1',dI,c47',hcx,aD]
      | false =>
       obtain⟨S',jj,y2,y5,y6,y7,y16,y17,y18,y19,ih,hz,hj⟩:=ihs T2 x2 (.lb ((aK x).map .iv)) (.tsl S.length (aT (R1++[x.d]))) (.iv (.bool false)) (.iv (.bool true)) (.iv (.bool true)) (.iv (.bool false)) z0' z1'
       rw[show ((i+1:Nat):Int)=(i:Int)+1 by omega,aY]at ih
       refine⟨S',jj,y2,y5,y6,y7,y16,y17,y18,y19,aF K _ _ t54L0.eq_1 ?_,hz,?_⟩
       ·simp (config := { maxSteps := 4000000 }) (disch:=omega) only[go_sem,hix,c45,ha,aB c46,z1',dI,c47',hcx,aD]
        exact congrArg er ih
       ·simpa  using hj
    ·have hr:dC x=R1++[x.d]:=by rw[←hR1]; unfold dC; rw[if_pos hD]
     have hg:eU x=true:=by unfold eU; simp; omega
     rw[hr,hg]
     generalize (R1++[x.d]).any (aZ rg)=an at *
     cases fm with
     | false =>
      refine⟨T2,.ret,.iv (.int .i64 2),.lb ((aK x).map .iv),.tsl S.length (aT (R1++[x.d])),.iv (.bool true),.iv (.int .i64 i),.iv (.bool true),.iv (.bool true),.iv (.bool true),aF K _ _ t54L0.eq_1 ?_,z0',.inr ⟨rfl,rfl,rfl⟩⟩
      rw[aY]
      simp (config := { maxSteps := 4000000 }) (disch:=omega) only[go_sem,hix,c45,ha,aB c46,z1',dI,c47',hcx,aD]
     | true =>
      cases an with
      | true =>
       refine⟨T2,.ret,.iv (.int .i64 2),.lb ((aK x).map .iv),.tsl S.length (aT (R1++[x.d])),.iv (.bool true),.iv (.int .i64 i),.iv (.bool true),.iv (.bool true),.iv (.bool true),aF K _ _ t54L0.eq_1 ?_,z0',.inr ⟨rfl,rfl,rfl⟩⟩
       rw[aY]
       simp (config := { maxSteps := 4000000 }) (disch:=omega) only[go_sem,hix,c45,ha,aB c46,z1',dI,c47',hcx,aD]
      | false =>
       by_cases hc1:cn=1
       ·subst hc1
        obtain⟨S',jj,y2,y5,y6,y7,y16,y17,y18,y19,ih,hz,hj⟩:=ihs T2 x2 (.lb ((aK x).map .iv)) (.tsl S.length (aT (R1++[x.d]))) (.iv (.bool true)) (.iv (.bool true)) (.iv (.bool true)) (.iv (.bool false)) z0' z1'
        rw[show ((i+1:Nat):Int)=(i:Int)+1 by omega,aY]at ih
        refine⟨S',jj,y2,y5,y6,y7,y16,y17,y18,y19,aF K _ _ t54L0.eq_1 ?_,hz,?_⟩
        ·simp (config := { maxSteps := 4000000 }) (disch:=omega) only[go_sem,hix,c45,ha,aB c46,z1',dI,c47',hcx,aD]
         exact congrArg er ih
        ·simpa  using hj
       ·refine⟨T2,.ret,.iv (.int .i64 2),.lb ((aK x).map .iv),.tsl S.length (aT (R1++[x.d])),.iv (.bool true),.iv (.int .i64 i),.iv (.bool true),.iv (.bool true),.iv (.bool true),aF K _ _ t54L0.eq_1 ?_,z0',.inr ⟨rfl,rfl,by simp[hc1]⟩⟩
        rw[aY]
        simp (config := { maxSteps := 4000000 }) (disch:=omega) only[go_sem,hix,c45,ha,aB c46,z1',dI,c47',hcx,aD]
    ·have hr:dC x=R1++[x.d]:=by rw[←hR1]; unfold dC; rw[if_pos hD]
     have hg:eU x=true:=by unfold eU; simp; omega
     rw[hr,hg]
     generalize (R1++[x.d]).any (aZ rg)=an at *
     cases fm with
     | false =>
      refine⟨T2,.ret,.iv (.int .i64 2),.lb ((aK x).map .iv),.tsl S.length (aT (R1++[x.d])),.iv (.bool true),.iv (.int .i64 i),.iv (.bool true),.iv (.bool true),.iv (.bool true),aF K _ _ t54L0.eq_1 ?_,z0',.inr ⟨rfl,rfl,rfl⟩⟩
      rw[aY]
      simp (config := { maxSteps := 4000000 }) (disch:=omega) only[go_sem,hix,c45,ha,aB c46,z1',dI,c47',hcx,aD]
     | true =>
      cases an with
      | true =>
       refine⟨T2,.ret,.iv (.int .i64 2),.lb ((aK x).map .iv),.tsl S.length (aT (R1++[x.d])),.iv (.bool true),.iv (.int .i64 i),.iv (.bool true),.iv (.bool true),.iv (.bool true),aF K _ _ t54L0.eq_1 ?_,z0',.inr ⟨rfl,rfl,rfl⟩⟩
       rw[aY]
       simp (config := { maxSteps := 4000000 }) (disch:=omega) only[go_sem,hix,c45,ha,aB c46,z1',dI,c47',hcx,aD]
      | false =>
       by_cases hc1:cn=1
       ·subst hc1
        obtain⟨S',jj,y2,y5,y6,y7,y16,y17,y18,y19,ih,hz,hj⟩:=ihs T2 x2 (.lb ((aK x).map .iv)) (.tsl S.length (aT (R1++[x.d]))) (.iv (.bool true)) (.iv (.bool true)) (.iv (.bool true)) (.iv (.bool false)) z0' z1'
        rw[show ((i+1:Nat):Int)=(i:Int)+1 by omega,aY]at ih
        refine⟨S',jj,y2,y5,y6,y7,y16,y17,y18,y19,aF K _ _ t54L0.eq_1 ?_,hz,?_⟩
        ·simp (config := { maxSteps := 4000000 }) (disch:=omega) only[go_sem,hix,c45,ha,aB c46,z1',dI,c47',hcx,aD]
         exact congrArg er ih
        ·simpa  using hj
       ·refine⟨T2,.ret,.iv (.int .i64 2),.lb ((aK x).map .iv),.tsl S.length (aT (R1++[x.d])),.iv (.bool true),.iv (.int .i64 i),.iv (.bool true),.iv (.bool true),.iv (.bool true),aF K _ _ t54L0.eq_1 ?_,z0',.inr ⟨rfl,rfl,by simp[hc1]⟩⟩
        rw[aY]
        simp (config := { maxSteps := 4000000 }) (disch:=omega) only[go_sem,hix,c45,ha,aB c46,z1',dI,c47',hcx,aD]
    ·have hr:dC x=R1++[x.d]:=by rw[←hR1]; unfold dC; rw[if_pos hD]
     have hg:eU x=false:=by unfold eU; simp; omega
     rw[hr,hg]
     generalize (R1++[x.d]).any (aZ rg)=an at *
     cases fm with
     | false =>
      refine⟨T2,.ret,.iv (.int .i64 2),.lb ((aK x).map .iv),.tsl S.length (aT (R1++[x.d])),.iv (.bool false),.iv (.int .i64 i),.iv (.bool true),.iv (.bool true),.iv (.bool true),aF K _ _ t54L0.eq_1 ?_,z0',.inr ⟨rfl,rfl,rfl⟩⟩
      rw[aY]
      simp (config := { maxSteps := 4000000 }) (disch:=omega) only[go_sem,hix,c45,ha,aB c46,z1',dI,c47',hcx,aD]
     | true =>
      cases an with
      | true =>
       refine⟨T2,.ret,.iv (.int .i64 2),.lb ((aK x).map .iv),.tsl S.length (aT (R1++[x.d])),.iv (.bool false),.iv (.int .i64 i),.iv (.bool true),.iv (.bool true),.iv (.bool true),aF K _ _ t54L0.eq_1 ?_,z0',.inr ⟨rfl,rfl,rfl⟩⟩
       rw[aY]
       simp (config := { maxSteps := 4000000 }) (disch:=omega) only[go_sem,hix,c45,ha,aB c46,z1',dI,c47',hcx,aD]
      | false =>
       obtain⟨S',jj,y2,y5,y6,y7,y16,y17,y18,y19,ih,hz,hj⟩:=ihs T2 x2 (.lb ((aK x).map .iv)) (.tsl S.length (aT (R1++[x.d]))) (.iv (.bool false)) (.iv (.bool true)) (.iv (.bool true)) (.iv (.bool false)) z0' z1'
       rw[show ((i+1:Nat):Int)=(i:Int)+1 by omega,aY]at ih
       refine⟨S',jj,y2,y5,y6,y7,y16,y17,y18,y19,aF K _ _ t54L0.eq_1 ?_,hz,?_⟩
       ·simp (config := { maxSteps := 4000000 }) (disch:=omega) only[go_sem,hix,c45,ha,aB c46,z1',dI,c47',hcx,aD]
        exact congrArg er ih
       ·simpa  using hj
theorem ao0 (l:List IV):fS (.iv (.cp l)) 0=some (.iv (.cp l)):=by simp[fS]
theorem ao5 (a b c d e f g h:IV):fS (.iv (.cp [a,b,c,d,e,f,g,h])) 5=some (.iv (.cp [f,g,h])):=by simp[fS]
theorem ao6 (a b c d e f g h:IV):fS (.iv (.cp [a,b,c,d,e,f,g,h])) 6=some (.iv (.cp [g,h])):=by simp[fS]
attribute [go_sem] ao0 ao5 ao6
def bH (fn rg sl nd pr:Int)(rs:Bool)(ti:Tag)(ins:List VI):List IV:=[.int .i64 fn,.int .i64 rg,.int .i64 sl,.int .i64 nd,.int .i64 pr,.bool rs,.sl ti (ins.map aK)]
def aKn (ins:List VI):Bool:=decide ((ins.getD (ins.length-1) default).op=66∨(ins.getD (ins.length-1) default).op=68∨(ins.getD (ins.length-1) default).op=72)
def sG (rg sl nd pr:Int)(ins:List VI):Prop:=32≤rg∧0≤nd∧0≤sl∧0≤pr∧0<ins.length
instance (rg sl nd pr:Int) (ins:List VI):Decidable (sG rg sl nd pr ins):=by unfold sG; infer_instance
def aB1 (rg sl nd pr:Int)(ins:List VI):Bool:=decide (sG rg sl nd pr ins)&&(!ins.any (pK rg ins)&&aKn ins)
theorem bHl (fn rg sl nd pr:Int)(rs:Bool)(ti:Tag)(ins:List VI)(hn:ins.length≤1000000)(hus:∀x∈ins,x.us.length≤999990∧bN x.tu x.us):TM.Pure K 54 [.iv (.agg (bH fn rg sl nd pr rs ti ins))] (.iv (.int .i64 (if aB1 rg sl nd pr ins then 0 else 2))):=by
 unfold aB1
 have hlen:(ins.map aK).length=ins.length:=List.length_map _
 by_cases hh:sG rg sl nd pr ins
 ·rw[decide_eq_true hh,Bool.true_and]
  obtain⟨h1,h2,h3,h4,h5⟩:=hh
  obtain⟨S1,rows,c,y4,y12,y13,l1,z0,z1,hc⟩:=aEu (fn:=fn) (rg:=rg) (sl:=sl) (nd:=nd) (pr:=pr) (rs:=rs) (ti:=ti) (ins:=ins) hn (.iv (.agg (bH fn rg sl nd pr rs ti ins))) (.ptr 0 25 0) (.iv (.int .i64 0)) u_ u_ u_ (.iv (.bool false)) u_ u_ u_ u_ u_ u_ u_ u_ ins.length 0 [bxF fn rg sl nd pr rs ti ins,.mp (mpR vI []) 0] [] 0 u_ u_ u_ (by omega) rfl rfl (fun L=>by simp[nJ,gN,gO])
  obtain⟨S2,jj,y2,y5,y6,y7,y16,y17,y18,y19,l2,w0,hj⟩:=aOg (fn:=fn) (rg:=rg) (sl:=sl) (nd:=nd) (pr:=pr) (rs:=rs) (ti:=ti) hn hus hc (.iv (.agg (bH fn rg sl nd pr rs ti ins))) y4 (.iv (.bool false)) (.iv (.sl ti (ins.map aK))) (.iv (.int .i64 ins.length)) (.iv (.int .i64 ins.length)) y12 y13 u_ u_ ins.length 0 S1 (.iv (.int .i64 0)) u_ u_ u_ u_ u_ u_ (by omega) z0 z1
  rw[show ((0:Nat):Int)=0 from rfl]at l1 l2
  rw[List.drop_zero]at hj
  have hl:ins.length-1<ins.length:=by omega
  have hix:=gJ (w:=8) (f:=aK) eQ (t:=ti) (l:=ins) (i:=((ins.length:Int)-1)) (by omega)
  rw[show ((ins.length:Int)-1).toNat=ins.length-1 by omega,bP]at hix
  unfold aKn
  generalize ins.getD (ins.length-1) default=x at *
  unfold bxF at l1 z0 w0
  rw[show mpR vI []=[] from rfl]at l1
  rw[show bH fn rg sl nd pr rs ti ins=[.int .i64 fn,.int .i64 rg,.int .i64 sl,.int .i64 nd,.int .i64 pr,.bool rs,.sl ti (ins.map aK)] from rfl]at l1 l2 ⊢
  have h5':¬((ins.length:Nat):Int)=0:=by omega
  rcases hj with⟨rfl,hj⟩|⟨rfl,rfl,hj⟩
  ·rw[hj,Bool.not_false,Bool.true_and]
   rcases (by omega:x.op=66∨x.op=68∨x.op=72∨(x.op≠66∧x.op≠68∧x.op≠72)) with h|h|h|⟨ha,hb,hd⟩
   ·rw[decide_eq_true (.inl h),if_pos rfl]
    refine aH t54 rfl rfl ?_
    simp (config := { maxSteps := 4000000 }) (disch:=omega) only[t54,go_sem,hlen,h5']
    rw[l1]
    simp (config := { maxSteps := 4000000 }) (disch:=omega) only[go_sem,z0,hlen]
    rw[l2]
    simp (config := { maxSteps := 4000000 }) (disch:=omega) only[go_sem,w0,hlen,hix,aD]
   ·rw[decide_eq_true (.inr (.inl h)),if_pos rfl]
    refine aH t54 rfl rfl ?_
    simp (config := { maxSteps := 4000000 }) (disch:=omega) only[t54,go_sem,hlen,h5']
    rw[l1]
    simp (config := { maxSteps := 4000000 }) (disch:=omega) only[go_sem,z0,hlen]
    rw[l2]
    simp (config := { maxSteps := 4000000 }) (disch:=omega) only[go_sem,w0,hlen,hix,aD]
   ·rw[decide_eq_true (.inr (.inr h)),if_pos rfl]
    refine aH t54 rfl rfl ?_
    simp (config := { maxSteps := 4000000 }) (disch:=omega) only[t54,go_sem,hlen,h5']
    rw[l1]
    simp (config := { maxSteps := 4000000 }) (disch:=omega) only[go_sem,z0,hlen]
    rw[l2]
    simp (config := { maxSteps := 4000000 }) (disch:=omega) only[go_sem,w0,hlen,hix,aD]
   ·rw[decide_eq_false (by omega),if_neg (by decide)]
    refine aH t54 rfl rfl ?_
    simp (config := { maxSteps := 4000000 }) (disch:=omega) only[t54,go_sem,hlen,h5']
    rw[l1]
    simp (config := { maxSteps := 4000000 }) (disch:=omega) only[go_sem,z0,hlen]
    rw[l2]
    simp (config := { maxSteps := 4000000 }) (disch:=omega) only[go_sem,w0,hlen,hix,aD]
  ·rw[hj,Bool.not_true,Bool.false_and,if_neg (by decide)]
   refine aH t54 rfl rfl ?_
   simp (config := { maxSteps := 4000000 }) (disch:=omega) only[t54,go_sem,hlen,h5']
   rw[l1]
   simp (config := { maxSteps := 4000000 }) (disch:=omega) only[go_sem,z0,hlen]
   rw[l2]
   simp (config := { maxSteps := 4000000 }) (disch:=omega) only[go_sem]
 ·rw[decide_eq_false hh,Bool.false_and,if_neg (by decide)]
  unfold sG at hh
  refine aH t54 rfl rfl ?_
  unfold bH
  rcases (by omega:rg<32∨(32≤rg∧nd<0)∨(32≤rg∧0≤nd∧sl<0)∨(32≤rg∧0≤nd∧0≤sl∧pr<0)∨(32≤rg∧0≤nd∧0≤sl∧0≤pr∧ins.length=0)) with h|h|h|h|h
  ·simp (config := { maxSteps := 4000000 }) (disch:=omega) only[t54,go_sem,hlen]
  ·simp (config := { maxSteps := 4000000 }) (disch:=omega) only[t54,go_sem,hlen]
  ·simp (config := { maxSteps := 4000000 }) (disch:=omega) only[t54,go_sem,hlen]
  ·simp (config := { maxSteps := 4000000 }) (disch:=omega) only[t54,go_sem,hlen]
  ·have h0:((ins.length:Nat):Int)=0:=by omega
   simp (config := { maxSteps := 4000000 }) (disch:=omega) only[t54,go_sem,hlen,h0]
theorem bJ5 (fn rg sl nd pr:Int)(rs:Bool)(ti:Tag)(ins:List VI)(h:TM.Pure K 54 [.iv (.agg (bH fn rg sl nd pr rs ti ins))] (.iv (.int .i64 2))):(lim K).call 27 [.iv (.agg (bH fn rg sl nd pr rs ti ins))] []=.ret (.tup [.iv .nilp,.iv (.int .i64 2)],[]):=by
 unfold bH at *
 refine aP K _ (fn:=t27) rfl rfl ?_
 simp (config := { maxSteps := 4000000 }) (disch:=omega) only[t27,go_sem,aB h]
theorem bJ6 (fn rg sl nd pr:Int)(rs:Bool)(ti:Tag)(ins:List VI)(h:TM.Pure K 54 [.iv (.agg (bH fn rg sl nd pr rs ti ins))] (.iv (.int .i64 2))):TM.Pure K 10 [.iv (.agg (bH fn rg sl nd pr rs ti ins))] (.tup [.iv (.sl .nil []),.iv (.int .i64 2)]):=by
 have c25:=bJ5 fn rg sl nd pr rs ti ins h
 unfold bH at *
 refine aH t10 rfl rfl ?_
 simp (config := { maxSteps := 4000000 }) (disch:=omega) only[t10,go_sem,c25]
theorem ixL {I:Nat→List Nat}{n i:Nat}(h:i<n)(t:Tag):indexAddrS 1 (.iv (.sl t (fC I n))) (i:Int)=some (.iv (.cp [.sl (mM (aT (wlI 0 (I i)))) (TM.one (.int .i64) (wlI 0 (I i)))])):=by
 refine aBk (by omega) ?_ rfl
 rw[Int.toNat_natCast]
 unfold fC
 rw[List.getElem?_map,List.getElem?_range h]
 rfl
theorem aKo {rg:Int}{ins:List VI}(h:ins.any (pK rg ins)=false){i:Nat}(hi:i<ins.length)(hg:eU (ins.getD i default)=true):∃q:Nat,dB ins (ins.getD i default).lb=some (q:Int)∧q<ins.length:=by
 have hx:ins.getD i default∈ins:=by simp only[List.getD,List.getElem?_eq_getElem hi,Option.getD_some]; exact List.getElem_mem _
 rw[List.any_eq_false]at h
 have hb:=h _ hx
 cases hf:dB ins (ins.getD i default).lb with
 | some k =>
  have:=aC0 hf
  exact⟨k.toNat,by rw[Int.toNat_of_nonneg this.1],by omega⟩
 | none =>
  exfalso
  apply hb
  have hc:gO ins (ins.getD i default).lb=0:=by
   unfold dB at hf
   rw[Option.map_eq_none_iff,List.findIdx?_eq_none_iff]at hf
   unfold gO
   rw[List.filter_eq_nil_iff.2 (fun x hx=>by rw[hf x hx]; simp)]
   rfl
  rw[show pK rg ins (ins.getD i default)=(!jA (ins.getD i default).op (ins.getD i default).im||((dC (ins.getD i default)).any (aZ rg)||(eU (ins.getD i default)&&decide (gO ins (ins.getD i default).lb≠1)))) from rfl,hg,hc]
  simp
theorem bCx {l:List VI}{i:Nat}(h:i<l.length)(L:Int):dB (l.drop i) L=if (l.getD i default).op=65∧(l.getD i default).lb=L then some 0 else (dB (l.drop (i+1)) L).map (·+1):=by
 rw[eX h]
 unfold dB
 rw[List.findIdx?_cons]
 by_cases e:(l.getD i default).op=65∧(l.getD i default).lb=L
 ·rw[if_pos e,decide_eq_true e.1,decide_eq_true e.2]; rfl
 ·rw[if_neg e]
  have:(decide ((l.getD i default).op=65)&&decide ((l.getD i default).lb=L))=false:=by
   cases h1:(decide ((l.getD i default).op=65)&&decide ((l.getD i default).lb=L)) with
   | false=>rfl
   | true=>simp at h1; exact absurd h1 e
  rw[this]
  simp[Option.map_map,Function.comp_def]
theorem aVi {fn rg sl nd pr:Int}{rs:Bool}{ti:Tag}{ins:List VI}(hn:ins.length≤1000000)(x0:TV)(L:Int)(S:aA):∀(k i:Nat) (x5 x6:TV),i+k=ins.length →
  ∃(jj:aU) (y3 y4 y5 y6:TV),lp' (lim K) t69L0 [x0,.iv (.int .i64 L),.lb ((bH fn rg sl nd pr rs ti ins).map .iv),.iv (.int .i64 0),.iv (.int .i64 i),x5,x6] S
   = .ret (jj,[x0,.iv (.int .i64 L),.lb ((bH fn rg sl nd pr rs ti ins).map .iv),y3,y4,y5,y6],S)∧(jj=.exit 0∧dB (ins.drop i) L=none∨jj=.ret∧∃q:Int,dB (ins.drop i) L=some q∧y3=.iv (.int .i64 (i+q)))
 | 0,i,x5,x6,h=>by
  obtain rfl:i=ins.length:=by omega
  refine⟨.exit 0,.iv (.int .i64 0),.iv (.int .i64 ins.length),.iv (.bool false),x6,aF K _ _ t69L0.eq_1 ?_,.inl ⟨rfl,by rw[List.drop_length]; rfl⟩⟩
  have hlen:(ins.map aK).length=ins.length:=List.length_map _
  simp (config := { maxSteps := 4000000 }) (disch:=omega) only[go_sem,bH,List.map_cons,List.map_nil,hlen]
 | k+1,i,x5,x6,h=>by
  have hla:i<ins.length:=by omega
  have hlen:(ins.map aK).length=ins.length:=List.length_map _
  have hix:=gJ (w:=8) (f:=aK) eQ (t:=ti) (l:=ins) (i:=(i:Int)) (by omega)
  rw[Int.toNat_natCast,bP]at hix
  rw[bCx hla]
  generalize ins.getD i default=x at *
  by_cases e:x.op=65∧x.lb=L
  ·rw[if_pos e]
   refine⟨.ret,.iv (.int .i64 i),.iv (.int .i64 i),.iv (.bool true),.iv (.bool true),aF K _ _ t69L0.eq_1 ?_,.inr ⟨rfl,0,rfl,by rw[Int.add_zero]⟩⟩
   obtain⟨e1,e2⟩:=e
   simp (config := { maxSteps := 4000000 }) (disch:=omega) only[go_sem,bH,List.map_cons,List.map_nil,hlen,hix]
  ·rw[if_neg e]
   obtain⟨jj,y3,y4,y5,y6,ih,hj⟩:=aVi (fn:=fn) (rg:=rg) (sl:=sl) (nd:=nd) (pr:=pr) (rs:=rs) (ti:=ti) hn x0 L S k (i+1) (.iv (.bool true)) (.iv (.bool false)) (by omega)
   rw[show ((i+1:Nat):Int)=(i:Int)+1 by omega,show (bH fn rg sl nd pr rs ti ins).map TV.iv=[.iv (.int .i64 fn),.iv (.int .i64 rg),.iv (.int .i64 sl),.iv (.int .i64 nd),.iv (.int .i64 pr),.iv (.bool rs),.iv (.sl ti (ins.map aK))] from rfl]at ih
   rw[show (bH fn rg sl nd pr rs ti ins).map TV.iv=[.iv (.int .i64 fn),.iv (.int .i64 rg),.iv (.int .i64 sl),.iv (.int .i64 nd),.iv (.int .i64 pr),.iv (.bool rs),.iv (.sl ti (ins.map aK))] from rfl]
   refine⟨jj,y3,y4,y5,y6,aF K _ _ t69L0.eq_1 ?_,?_⟩
   ·by_cases e1:x.op=65
    ·have e2:¬x.lb=L:=fun h=>e ⟨e1,h⟩
     simp (config := { maxSteps := 4000000 }) (disch:=omega) only[go_sem,hlen,hix,aD]
     exact congrArg er ih
    ·simp (config := { maxSteps := 4000000 }) (disch:=omega) only[go_sem,hlen,hix,aD]
     exact congrArg er ih
   ·rcases hj with⟨rfl,hj⟩|⟨rfl,q,hj,rfl⟩
    ·exact .inl ⟨rfl,by rw[hj]; rfl⟩
    ·exact .inr ⟨rfl,q+1,by rw[hj]; rfl,by rw[show ((i+1:Nat):Int)+q=(i:Int)+(q+1) by omega]⟩
theorem bHm (fn rg sl nd pr:Int)(rs:Bool)(ti:Tag)(ins:List VI)(hn:ins.length≤1000000)(L:Int):TM.Pure K 69 [.iv (.agg (bH fn rg sl nd pr rs ti ins)),.iv (.int .i64 L)] (.iv (.int .i64 ((dB ins L).getD (-1)))):=by
 obtain⟨jj,y3,y4,y5,y6,l1,hj⟩:=aVi (fn:=fn) (rg:=rg) (sl:=sl) (nd:=nd) (pr:=pr) (rs:=rs) (ti:=ti) hn (.iv (.agg (bH fn rg sl nd pr rs ti ins))) L [] ins.length 0 u_ u_ (by omega)
 rw[show ((0:Nat):Int)=0 from rfl,show (bH fn rg sl nd pr rs ti ins).map TV.iv=[.iv (.int .i64 fn),.iv (.int .i64 rg),.iv (.int .i64 sl),.iv (.int .i64 nd),.iv (.int .i64 pr),.iv (.bool rs),.iv (.sl ti (ins.map aK))] from rfl,show bH fn rg sl nd pr rs ti ins=[.int .i64 fn,.int .i64 rg,.int .i64 sl,.int .i64 nd,.int .i64 pr,.bool rs,.sl ti (ins.map aK)] from rfl]at l1
 rw[show bH fn rg sl nd pr rs ti ins=[.int .i64 fn,.int .i64 rg,.int .i64 sl,.int .i64 nd,.int .i64 pr,.bool rs,.sl ti (ins.map aK)] from rfl]
 rw[List.drop_zero]at hj
 refine aH t69 rfl rfl ?_
 rcases hj with⟨rfl,hj⟩|⟨rfl,q,hj,rfl⟩
 ·rw[hj]
  simp (config := { maxSteps := 4000000 }) (disch:=omega) only[t69,go_sem]
  rw[l1]
  simp (config := { maxSteps := 4000000 }) (disch:=omega) only[go_sem]
  rfl
 ·rw[hj,Option.getD_some,show ((0:Nat):Int)+q=q by omega]at *
  simp (config := { maxSteps := 4000000 }) (disch:=omega) only[t69,go_sem]
  rw[l1]
  simp (config := { maxSteps := 4000000 }) (disch:=omega) only[go_sem]
def iI (l:List VI)(i:Nat):List Int :=
 if (l.getD i default).op=68∨(l.getD i default).op=72 then [] else
  (if (26≤(l.getD i default).op∧(l.getD i default).op≤31)∨(l.getD i default).op=66 then [(dB l (l.getD i default).lb).getD (-1)] else []) ++
  (if (l.getD i default).op≠66∧i+1<l.length then [(i:Int)+1] else [])
theorem bGj (k:Int):bI false 1 8 3 [] (.iv (.sl .nil [])) (.iv (.sl .full [[.int .i64 k]]))=some (.tsl 0 [[.int .i64 k]],[.tok 1 1 3]):=by
 have:=aPn (w:=1) (b:=8) (el:=3) (l:=[]) (t:=.full) (c:=[.int .i64 k]) ⟨rfl,rfl⟩ (by intro y hy; cases hy) (cX (by simp))
 simpa[acc,nU] using this
theorem bJ7 (k m:Int):bI false 1 8 3 [.tok 1 1 3] (.tsl 0 [[.int .i64 k]]) (.iv (.sl .full [[.int .i64 m]]))=some (.tsl 0 [[.int .i64 k],[.int .i64 m]],[.tok 2 1 3]):=by
 have:=aPn (w:=1) (b:=8) (el:=3) (l:=[[.int .i64 k]]) (t:=.full) (c:=[.int .i64 m]) ⟨rfl,rfl⟩ (by intro y hy; simp at hy; subst hy; exact⟨rfl,rfl⟩) (cX (by simp))
 simpa[acc,nU] using this
theorem aVj (fn rg sl nd pr:Int)(rs:Bool)(ti:Tag)(ins:List VI)(hn:ins.length≤1000000){i:Nat}(hi:i<ins.length):∃t:Tag,TM.Pure K 35 [.iv (.agg (bH fn rg sl nd pr rs ti ins)),.iv (.int .i64 i)] (.iv (.sl t (TM.one (.int .i64) (iI ins i)))):=by
 have c41:=bHm fn rg sl nd pr rs ti ins hn (ins.getD i default).lb
 have hlen:(ins.map aK).length=ins.length:=List.length_map _
 have hix:=gJ (w:=8) (f:=aK) eQ (t:=ti) (l:=ins) (i:=(i:Int)) (by omega)
 rw[Int.toNat_natCast,bP]at hix
 unfold iI
 unfold bH at *
 generalize ins.getD i default=x at *
 generalize (dB ins x.lb).getD (-1)=kL at *
 have a1:=bGj kL
 have a2:=bGj ((i:Int)+1)
 have a3:=bJ7 kL ((i:Int)+1)
 by_cases hT:x.op=68∨x.op=72
 ·rw[if_pos hT]
  refine⟨.nil,aH t35 rfl rfl ?_⟩
  rcases hT with hT|hT
  ·simp (config := { maxSteps := 4000000 }) (disch:=omega) only[t35,go_sem,hix,hlen,aB c41,a1,a2,a3,aD]
   rfl
  ·simp (config := { maxSteps := 4000000 }) (disch:=omega) only[t35,go_sem,hix,hlen,aB c41,a1,a2,a3,aD]
   rfl
 ·rw[if_neg hT]
  by_cases hJ:x.op=66
  ·rw[if_pos (.inr hJ),if_neg (by omega)]
   refine⟨.no,TM.cV (S:=[.tok 1 1 3]) (r:=.tsl 0 [[.int .i64 kL]]) (aP K _ (fn:=t35) rfl rfl ?_) rfl⟩
   simp (config := { maxSteps := 4000000 }) (disch:=omega) only[t35,go_sem,hix,hlen,aB c41,a1,a2,a3,aD]
  ·by_cases hB:26≤x.op∧x.op≤31
   ·rw[if_pos (.inl hB)]
    by_cases hN:i+1<ins.length
    ·rw[if_pos ⟨hJ,hN⟩]
     refine⟨.no,TM.cV (S:=[.tok 2 1 3]) (r:=.tsl 0 [[.int .i64 kL],[.int .i64 ((i:Int)+1)]]) (aP K _ (fn:=t35) rfl rfl ?_) rfl⟩
     simp (config := { maxSteps := 4000000 }) (disch:=omega) only[t35,go_sem,hix,hlen,aB c41,a1,a2,a3,aD]
    ·rw[if_neg (fun h=>hN h.2)]
     refine⟨.no,TM.cV (S:=[.tok 1 1 3]) (r:=.tsl 0 [[.int .i64 kL]]) (aP K _ (fn:=t35) rfl rfl ?_) rfl⟩
     simp (config := { maxSteps := 4000000 }) (disch:=omega) only[t35,go_sem,hix,hlen,aB c41,a1,a2,a3,aD]
   ·rw[if_neg (by omega)]
    by_cases hN:i+1<ins.length
    ·rw[if_pos ⟨hJ,hN⟩]
     refine⟨.no,TM.cV (S:=[.tok 1 1 3]) (r:=.tsl 0 [[.int .i64 ((i:Int)+1)]]) (aP K _ (fn:=t35) rfl rfl ?_) rfl⟩
     rcases (by omega:x.op<26∨31<x.op) with hC|hC
     ·simp (config := { maxSteps := 4000000 }) (disch:=omega) only[t35,go_sem,hix,hlen,aB c41,a1,a2,a3,aD]
     ·simp (config := { maxSteps := 4000000 }) (disch:=omega) only[t35,go_sem,hix,hlen,aB c41,a1,a2,a3,aD]
    ·rw[if_neg (fun h=>hN h.2)]
     refine⟨.nil,aH t35 rfl rfl ?_⟩
     rcases (by omega:x.op<26∨31<x.op) with hC|hC
     ·simp (config := { maxSteps := 4000000 }) (disch:=omega) only[t35,go_sem,hix,hlen,aB c41,a1,a2,a3,aD]
      rfl
     ·simp (config := { maxSteps := 4000000 }) (disch:=omega) only[t35,go_sem,hix,hlen,aB c41,a1,a2,a3,aD]
      rfl
theorem bCy (v:VI)(h:(1≤v.op∧v.op≤14)∨v.op=25∨(26≤v.op∧v.op≤31)):∃t',bN t' (bV v)∧TM.Pure K 87 [.iv (.agg (aK v))] (.iv (.sl t' (TM.one (.int .i64) (bV v)))):=by
 have hM:bV v=gG (gG [] v.a) v.b:=by unfold bV; rw[if_pos (by omega)]; rfl
 obtain⟨ta,hta,ca⟩:=nA .nil [] v.a bN.nil (by simp)
 have l1:=nK [] v.a
 obtain⟨tb,htb,cb⟩:=nA ta _ v.b hta (by simp at l1; omega)
 rw[hM]
 simp only[show TM.one (IV.int .i64) []=[] from rfl]at ca
 refine⟨tb,htb,aH t87 rfl rfl ?_⟩
 rcases h with h|h|h<;>simp (config := { maxSteps := 4000000 }) (disch:=omega) only[t87,go_sem,aK,List.map_cons,List.map_nil,aB ca,aB cb]
theorem bCz (v:VI)(h:(15≤v.op∧v.op≤22)∨v.op=24∨v.op=64∨v.op=74):∃t',bN t' (bV v)∧TM.Pure K 87 [.iv (.agg (aK v))] (.iv (.sl t' (TM.one (.int .i64) (bV v)))):=by
 have hM:bV v=gG [] v.a:=by unfold bV; rw[if_neg (by omega),if_pos (by omega)]; rfl
 obtain⟨ta,hta,ca⟩:=nA .nil [] v.a bN.nil (by simp)
 rw[hM]
 simp only[show TM.one (IV.int .i64) []=[] from rfl]at ca
 refine⟨ta,hta,aH t87 rfl rfl ?_⟩
 rcases h with h|h|h|h<;>simp (config := { maxSteps := 4000000 }) (disch:=omega) only[t87,go_sem,aK,List.map_cons,List.map_nil,aB ca]
theorem bC0 (v:VI)(hu:v.us.length≤1000000)(h:v.op=67∨v.op=68∨v.op=72):∃t',bN t' (bV v)∧TM.Pure K 87 [.iv (.agg (aK v))] (.iv (.sl t' (TM.one (.int .i64) (bV v)))):=by
 have hM:bV v=gG (v.us.foldl gG []) 26:=by unfold bV; rw[if_neg (by omega),if_neg (by omega),if_pos h]; simp[tdy]
 obtain⟨tl,y8,htl,lo⟩:=aUq v hu (.iv (.agg (aK v))) (.iv (.sl .nil [])) (.iv (.bool false)) (.iv (.bool false)) (.iv (.bool true)) [] v.us.length 0 .nil [] u_ (by omega) bN.nil (by simp)
 rw[show ((0:Nat):Int)=0 from rfl]at lo
 have l2:=pG v.us []
 rw[List.drop_zero]at htl lo
 obtain⟨tc,htc,cc⟩:=nA tl _ 26 htl (by simp at l2; omega)
 rw[tC]at lo
 rw[hM]
 rw[aY,bP]at lo
 refine⟨tc,htc,aH t87 rfl rfl ?_⟩
 rcases h with h|h|h <;>
 ·simp (config := { maxSteps := 4000000 }) (disch:=omega) only[t87,go_sem,aK,List.map_cons,List.map_nil]
  rw[lo]
  simp (config := { maxSteps := 4000000 }) (disch:=omega) only[go_sem,aB cc]
theorem bC1 (v:VI)(h:v.op<1∨v.op=23∨(32≤v.op∧v.op≤63)∨v.op=65∨v.op=66∨v.op=69∨v.op=70∨v.op=71∨v.op=73∨74<v.op):∃t',bN t' (bV v)∧TM.Pure K 87 [.iv (.agg (aK v))] (.iv (.sl t' (TM.one (.int .i64) (bV v)))):=by
 have hM:bV v=[]:=by unfold bV; rw[if_neg (by omega),if_neg (by omega),if_neg (by omega)]
 rw[hM]
 refine⟨.nil,bN.nil,aH t87 rfl rfl ?_⟩
 rcases h with h|h|h|h|h|h|h|h|h|h<;>simp (config := { maxSteps := 4000000 }) (disch:=omega) only[t87,go_sem,aK,List.map_cons,List.map_nil]<;>rfl
theorem bHn (v:VI)(hu:v.us.length≤1000000):∃t',bN t' (bV v)∧TM.Pure K 87 [.iv (.agg (aK v))] (.iv (.sl t' (TM.one (.int .i64) (bV v)))):=by
 by_cases h1:(1≤v.op∧v.op≤14)∨v.op=25∨(26≤v.op∧v.op≤31)
 ·exact bCy v h1
 ·by_cases h2:(15≤v.op∧v.op≤22)∨v.op=24∨v.op=64∨v.op=74
  ·exact bCz v h2
  ·by_cases h3:v.op=67∨v.op=68∨v.op=72
   ·exact bC0 v hu h3
   ·exact bC1 v (by omega)
theorem aVk (x0 x1 x2 x5 x6:TV)(S:aA):∀(k i:Nat) (t:Tag) (l:List Int) (x7:TV),i+k=26→bN t l→l.length≤i →
  ∃(t':Tag) (y7:TV),bN t' ((bY.drop i).foldl gG l)∧lp' (lim K) t37L0 [x0,x1,x2,.iv (.sl t (TM.one (.int .i64) l)),.iv (.int .i64 ((i:Int)+1)),x5,x6,x7] S
   = .ret (.exit 0,[x0,x1,x2,.iv (.sl t' (TM.one (.int .i64) ((bY.drop i).foldl gG l))),.iv (.int .i64 27),x5,x6,y7],S)
 | 0,i,t,l,x7,h,ht,hl=>by
  obtain rfl:i=26:=by omega
  rw[show bY.drop 26=[] by decide,List.foldl_nil]
  refine⟨t,.iv (.bool false),ht,aF K _ _ t37L0.eq_1 ?_⟩
  simp (config := { maxSteps := 4000000 }) (disch:=omega) only[go_sem]
  rfl
 | k+1,i,t,l,x7,h,ht,hl=>by
  obtain⟨t1,ht1,c24⟩:=nA t l ((i:Int)+1) ht (by omega)
  have hpl:=nK l ((i:Int)+1)
  have hlen:bY.length=26:=by simp[bY]
  have hdr:=eX (l:=bY) (i:=i) (by omega)
  have hg:bY.getD i default=(i:Int)+1:=by simp[bY,List.getD,show i<26 by omega]
  obtain⟨t',y7,ht',ih⟩:=aVk x0 x1 x2 x5 x6 S k (i+1) t1 _ (.iv (.bool true)) (by omega) ht1 (by omega)
  rw[hdr,List.foldl_cons,hg]
  rw[show ((i+1:Nat):Int)=(i:Int)+1 by omega]at ih
  refine⟨t',y7,ht',aF K _ _ t37L0.eq_1 ?_⟩
  simp (config := { maxSteps := 4000000 }) (disch:=omega) only[go_sem,aB c24,aD]
  exact congrArg er ih
theorem bC2 (v:VI)(h:(1≤v.op∧v.op≤24)∨v.op=64∨v.op=69∨v.op=70∨v.op=71∨v.op=73):∃t',bN t' (bM v)∧TM.Pure K 37 [.iv (.agg (aK v))] (.iv (.sl t' (TM.one (.int .i64) (bM v)))):=by
 have hM:bM v=gG [] v.d:=by unfold bM; rw[if_pos (by omega)]; rfl
 obtain⟨ta,hta,ca⟩:=nA .nil [] v.d bN.nil (by simp)
 rw[hM]
 simp only[show TM.one (IV.int .i64) []=[] from rfl]at ca
 refine⟨ta,hta,aH t37 rfl rfl ?_⟩
 rcases h with h|h|h|h|h|h<;>simp (config := { maxSteps := 4000000 }) (disch:=omega) only[t37,go_sem,aK,List.map_cons,List.map_nil,aB ca]
theorem bC3 (v:VI)(h:v.op=67):∃t',bN t' (bM v)∧TM.Pure K 37 [.iv (.agg (aK v))] (.iv (.sl t' (TM.one (.int .i64) (bM v)))):=by
 have hM:bM v=gG (gG (bY.foldl gG []) 31) v.d:=by unfold bM; rw[if_neg (by omega),if_pos h]; simp[tdy]
 obtain⟨tl,y7,htl,lo⟩:=aVk (.iv (.agg (aK v))) (.lb ((aK v).map .iv)) (.iv (.sl .nil [])) (.iv (.bool false)) (.iv (.bool true)) [] 26 0 .nil [] u_ (by omega) bN.nil (by simp)
 rw[show ((0:Nat):Int)+1=1 from rfl]at lo
 have l2:=pG bY []
 have hlen:bY.length=26:=by simp[bY]
 rw[List.drop_zero]at htl lo
 obtain⟨tc,htc,cc⟩:=nA tl _ 31 htl (by simp at l2; omega)
 have l3:=nK (bY.foldl gG []) 31
 obtain⟨td,htd,cd⟩:=nA tc _ v.d htc (by simp at l2; omega)
 rw[tC]at lo
 rw[hM]
 rw[aY,bP]at lo
 refine⟨td,htd,aH t37 rfl rfl ?_⟩
 simp (config := { maxSteps := 4000000 }) (disch:=omega) only[t37,go_sem,aK,List.map_cons,List.map_nil]
 rw[lo]
 simp (config := { maxSteps := 4000000 }) (disch:=omega) only[go_sem,aB cc,aB cd]
theorem bC4 (v:VI)(h:v.op<1∨(25≤v.op∧v.op≤63)∨v.op=65∨v.op=66∨v.op=68∨v.op=72∨73<v.op):∃t',bN t' (bM v)∧TM.Pure K 37 [.iv (.agg (aK v))] (.iv (.sl t' (TM.one (.int .i64) (bM v)))):=by
 have hM:bM v=[]:=by unfold bM; rw[if_neg (by omega),if_neg (by omega)]
 rw[hM]
 refine⟨.nil,bN.nil,aH t37 rfl rfl ?_⟩
 rcases h with h|h|h|h|h|h|h<;>simp (config := { maxSteps := 4000000 }) (disch:=omega) only[t37,go_sem,aK,List.map_cons,List.map_nil]<;>rfl
theorem aVl (v:VI):∃t',bN t' (bM v)∧TM.Pure K 37 [.iv (.agg (aK v))] (.iv (.sl t' (TM.one (.int .i64) (bM v)))):=by
 by_cases h1:(1≤v.op∧v.op≤24)∨v.op=64∨v.op=69∨v.op=70∨v.op=71∨v.op=73
 ·exact bC2 v h1
 ·by_cases h3:v.op=67
  ·exact bC3 v h3
  ·exact bC4 v (by omega)
inductive LvR (ins:List VI) (r:Int):Nat→Prop
 | use {i:Nat} (h:r∈bV (ins.getD i default)):LvR ins r i
 | step {i:Nat} {k:Int} (hk:k∈iI ins i) (h:LvR ins r k.toNat) (hd:r∉bM (ins.getD i default)):LvR ins r i
def bHo (ins:List VI)(L:Nat→Bool)(i:Nat):Bool:=(iI ins i).any fun k=>L k.toNat
def eqL (ins:List VI)(r:Int)(L:Nat→Bool)(i:Nat):Bool:=decide (r∈bV (ins.getD i default))||(!decide (r∈bM (ins.getD i default))&&bHo ins L i)
def zJ (n:Nat)(L:Nat→Bool):Nat:=((List.range n).filter fun i=>!L i).length
structure RdL (ins:List VI) (r:Int) (n:Nat) (L0 L:Nat→Bool) (i:Nat) (ch:Bool):Prop where
 snd:∀j,L j=true→LvR ins r j
 more:zJ n L≤zJ n L0
 yes:ch=true→zJ n L<zJ n L0
 no:ch=false→L=L0∧∀j,i≤j→j<n→eqL ins r L j=true→L j=true
theorem bHp {ins:List VI}{r:Int}{L:Nat→Bool}(h:∀j,L j=true→LvR ins r j){i:Nat}(he:eqL ins r L i=true):LvR ins r i:=by
 unfold eqL bHo at he
 rw[Bool.or_eq_true,Bool.and_eq_true]at he
 rcases he with he|⟨hd,he⟩
 ·exact .use (of_decide_eq_true he)
 ·obtain⟨k,hk,hb⟩:=List.any_eq_true.1 he
  exact .step hk (h _ hb) (by simpa using hd)
theorem RdL.skip {ins:List VI}{r:Int}{n:Nat}{L0 L:Nat→Bool}{i:Nat}{ch:Bool}(h:RdL ins r n L0 L (i+1) ch)(he:eqL ins r L i=true→L i=true):RdL ins r n L0 L i ch :=
 ⟨h.snd,h.more,h.yes,fun hc=>⟨(h.no hc).1,fun j hj hn hq=>by
  by_cases e:j=i
  ·subst e; exact he hq
  ·exact (h.no hc).2 j (by omega) hn hq⟩⟩
theorem RdL.set {ins:List VI}{r:Int}{n:Nat}{L0 L:Nat→Bool}{i:Nat}{ch:Bool}(h:RdL ins r n L0 L (i+1) ch)(hi:i<n)(he:eqL ins r L i=true)(hl:L i=false):RdL ins r n L0 (upd L i true) i true:=by
 have hlt:zJ n (upd L i true)<zJ n L:=by
  refine aU1 _ _ _ (fun x hx=>?_) (List.mem_range.2 hi) (by simp[hl]) (by simp[upd])
  unfold upd at hx
  split at hx
  ·cases hx
  ·exact hx
 have:=h.more
 refine⟨fun j hj=>?_,by omega,fun _=>by omega,fun hc=>by cases hc⟩
 unfold upd at hj
 split at hj
 ·subst_vars; exact bHp h.snd he
 ·exact h.snd j hj
def bF (L:Nat→Bool):Nat→TV:=fun i=>.iv (.bool (L i))
theorem bHq (L:Nat→Bool)(i:Nat)(b:Bool):upd (bF L) i (.iv (.bool b))=bF (upd L i b):=by
 funext j; simp only[bF,upd]; split<;>rfl
theorem aEv {n:Nat}(hn:n≤1000000){L:Nat→Bool}{S:aA}(h0:S[0]? = some (.cells 0 false (cF n (bF L))))(t:Tag){l:List Int}(hl:l.length≤1000)(hin:∀x∈l,0≤x∧x<n)(x0 x1 x2 x3 x5 x6 x10 x11 x13 x14:TV):∀(k i:Nat) (now:Bool) (x12:TV),i+k=l.length →
  lp' (lim K) t68L0 [x0,x1,x2,x3,.msl 0 0 0 n n 1,x5,x6,.iv (.bool now),.iv (.sl t (TM.one (.int .i64) l)),.iv (.int .i64 i),x10,x11,x12,x13,x14] S
   = .ret (.exit 4,[x0,x1,x2,x3,.msl 0 0 0 n n 1,x5,x6,.iv (.bool (now||(l.drop i).any fun k=>L k.toNat)),.iv (.sl t (TM.one (.int .i64) l)),.iv (.int .i64 l.length),x10,x11,.iv (.bool false),x13,x14],S)
 | 0,i,now,x12,h=>by
  obtain rfl:i=l.length:=by omega
  rw[List.drop_length,List.any_nil,Bool.or_false]
  refine aF K _ _ t68L0.eq_1 ?_
  simp (config := { maxSteps := 4000000 }) (disch:=omega) only[go_sem]
 | k+1,i,now,x12,h=>by
  have hla:i<l.length:=by omega
  have hix:=jZ (f:=IV.int .i64) (t:=t) (l:=l) (i:=(i:Int)) (by omega)
  rw[Int.toNat_natCast]at hix
  rw[eX hla,List.any_cons]
  obtain⟨q0,q1⟩:=hin (l.getD i default) (by simp only[List.getD,List.getElem?_eq_getElem hla,Option.getD_some]; exact List.getElem_mem _)
  obtain⟨q,hq⟩:=Int.eq_ofNat_of_zero_le q0
  rw[hq]at hix ⊢
  have hqn:q<n:=by omega
  have i1:=iH (j:=0) (v:=0) (cap:=n) hqn
  have s1:sub (cF n (bF L)) q 1=some [.iv (.bool (L q))]:=nZ (bF L) hqn
  rw[Int.toNat_natCast]
  cases now with
  | true =>
   have ih:=aEv hn h0 t hl hin x0 x1 x2 x3 x5 x6 x10 x11 x13 x14 k (i+1) true (.iv (.bool true)) (by omega)
   rw[show ((i+1:Nat):Int)=(i:Int)+1 by omega,Bool.true_or]at ih
   rw[Bool.true_or]
   refine aF K _ _ t68L0.eq_1 ?_
   simp (config := { maxSteps := 4000000 }) (disch:=omega) only[go_sem,hix,i1,h0,s1,aD]
   exact congrArg er ih
  | false =>
   have ih:=aEv hn h0 t hl hin x0 x1 x2 x3 x5 x6 x10 x11 x13 x14 k (i+1) (L q) (.iv (.bool true)) (by omega)
   rw[show ((i+1:Nat):Int)=(i:Int)+1 by omega]at ih
   rw[Bool.false_or]
   refine aF K _ _ t68L0.eq_1 ?_
   generalize L q=b at *
   simp (config := { maxSteps := 4000000 }) (disch:=omega) only[go_sem,hix,i1,h0,s1,aD]
   exact congrArg er ih
theorem aOh {fn rg sl nd pr:Int}{rs:Bool}{ti:Tag}{ins:List VI}(hn:ins.length≤1000000)(hus:∀x∈ins,x.us.length≤1000000)(hbe:∀i,i<ins.length→∀k∈iI ins i,0≤k∧k<ins.length){r:Int}{L0:Nat→Bool}(x0 x3 x14:TV):∀(i:Nat) (S:aA) (L:Nat→Bool) (ch:Bool) (x7 x8 x9 x11 x12 x13 x10:TV),i≤ins.length →
  S[0]? = some (.cells 0 false (cF ins.length (bF L)))→RdL ins r ins.length L0 L i ch →
  ∃(S':aA) (L':Nat→Bool) (ch':Bool) (y7 y8 y9 y10 y11 y12 y13:TV),lp' (lim K) t68L1 [x0,.iv (.int .i64 r),.lb [.iv (.int .i64 fn),.iv (.int .i64 rg),.iv (.int .i64 sl),.iv (.int .i64 nd),.iv (.int .i64 pr),.iv (.bool rs),.iv (.sl ti (ins.map aK))],x3,.msl 0 0 0 ins.length ins.length 1,.iv (.bool ch),.iv (.int .i64 ((i:Int)-1)),x7,x8,x9,x10,x11,x12,x13,x14] S
   = .ret (.exit 2,[x0,.iv (.int .i64 r),.lb [.iv (.int .i64 fn),.iv (.int .i64 rg),.iv (.int .i64 sl),.iv (.int .i64 nd),.iv (.int .i64 pr),.iv (.bool rs),.iv (.sl ti (ins.map aK))],x3,.msl 0 0 0 ins.length ins.length 1,.iv (.bool ch'),.iv (.int .i64 (-1)),y7,y8,y9,y10,y11,y12,y13,x14],S') ∧
   S'[0]? = some (.cells 0 false (cF ins.length (bF L')))∧RdL ins r ins.length L0 L' 0 ch'
 | 0,S,L,ch,x7,x8,x9,x11,x12,x13,x10,hi,h0,hR=>by
  refine⟨S,L,ch,x7,x8,x9,.iv (.bool false),x11,x12,x13,aF K _ _ t68L1.eq_1 ?_,h0,hR⟩
  rw[show ((0:Nat):Int)-1 = -1 from rfl]
  simp (config := { maxSteps := 4000000 }) (disch:=omega) only[go_sem]
 | i+1,S,L,ch,x7,x8,x9,x11,x12,x13,x10,hi,h0,hR=>by
  have hla:i<ins.length:=by omega
  have hlen:(ins.map aK).length=ins.length:=List.length_map _
  have hix:=gJ (w:=8) (f:=aK) eQ (t:=ti) (l:=ins) (i:=(i:Int)) (by omega)
  rw[Int.toNat_natCast,bP]at hix
  have hmem:ins.getD i default∈ins:=by simp only[List.getD,List.getElem?_eq_getElem hla,Option.getD_some]; exact List.getElem_mem _
  have hul:=hus _ hmem
  obtain⟨tu,_,c10⟩:=bHn (ins.getD i default) hul
  obtain⟨td,_,c12⟩:=aVl (ins.getD i default)
  have lU:=aCz (ins.getD i default)
  have lD:=qU (ins.getD i default)
  have hU:=aJ8 tu (bV (ins.getD i default)) r (by omega) []
  have hD:=aJ8 td (bM (ins.getD i default)) r (by omega) []
  obtain⟨tb,c29⟩:=aVj fn rg sl nd pr rs ti ins hn hla
  have hbl:(iI ins i).length≤1000:=by
   unfold iI; split
   ·simp
   ·split<;>split<;>simp
  have l1:=aEv hn h0 tb hbl (hbe i hla) x0 (.iv (.int .i64 r)) (.lb [.iv (.int .i64 fn),.iv (.int .i64 rg),.iv (.int .i64 sl),.iv (.int .i64 nd),.iv (.int .i64 pr),.iv (.bool rs),.iv (.sl ti (ins.map aK))]) x3 (.iv (.bool ch)) (.iv (.int .i64 i)) (.iv (.bool true)) (.iv (.bool true)) x13 x14 (iI ins i).length 0 false x12 (by omega)
  rw[show ((0:Nat):Int)=0 from rfl,List.drop_zero,Bool.false_or]at l1
  have hE:eqL ins r L i=(decide (r∈bV (ins.getD i default))||(!decide (r∈bM (ins.getD i default))&&(iI ins i).any fun k=>L k.toNat)):=rfl
  rw[show (((i+1:Nat):Int)-1)=(i:Int) by omega]
  have ihs:=fun (S:aA) (L:Nat→Bool) (ch:Bool) (x7 x8 x9 x11 x12 x13 x10:TV)=>aOh (fn:=fn) (rg:=rg) (sl:=sl) (nd:=nd) (pr:=pr) (rs:=rs) (ti:=ti) hn hus hbe (r:=r) (L0:=L0) x0 x3 x14 i S L ch x7 x8 x9 x11 x12 x13 x10 (by omega)
  have i1:=iH (j:=0) (v:=0) (cap:=ins.length) hla
  have s1:sub (cF ins.length (bF L)) i 1=some [.iv (.bool (L i))]:=nZ (bF L) hla
  have p1:=vM (bF L) (.iv (.bool true)) hla
  rw[bHq]at p1
  have hbb:i+1≤(cF ins.length (bF L)).length:=by rw[nY]; omega
  rw[bP]at c10 c12
  unfold bH at c29
  generalize hBL:iI ins i=bl at *
  generalize bV (ins.getD i default)=us at *
  generalize bM (ins.getD i default)=ds at *
  generalize hu:decide (r∈us)=bu at *
  generalize hd:decide (r∈ds)=bd at *
  generalize ha:(bl.any fun k=>L k.toNat)=ba at *
  generalize ins.getD i default=x at *
  have hlt:=cW h0
  cases bu with
  | true =>
   rw[Bool.true_or]at hE
   cases hLi:L i with
   | true =>
    rw[hLi]at s1
    obtain⟨S',L',ch',y7,y8,y9,y10,y11,y12,y13,ih,hx⟩:=ihs S L ch (.iv (.bool true)) x8 x9 (.iv (.bool false)) x12 (.iv (.bool false)) (.iv (.bool true)) h0 (hR.skip fun _=>hLi)
    refine⟨S',L',ch',y7,y8,y9,y10,y11,y12,y13,aF K _ _ t68L1.eq_1 ?_,hx⟩
    simp (config := { maxSteps := 4000000 }) (disch:=omega) only[go_sem,hlen,hix,aB c10,aB c12,hU,hD,i1,h0,s1,aD]
    exact congrArg er ih
   | false =>
    rw[hLi]at s1
    obtain⟨S',L',ch',y7,y8,y9,y10,y11,y12,y13,ih,hx⟩:=ihs (S.set 0 (.cells 0 false (cF ins.length (bF (upd L i true))))) (upd L i true) true (.iv (.bool true)) x8 x9 (.iv (.bool false)) x12 (.iv (.bool true)) (.iv (.bool true)) (bE hlt _) (hR.set hla hE hLi)
    refine⟨S',L',ch',y7,y8,y9,y10,y11,y12,y13,aF K _ _ t68L1.eq_1 ?_,hx⟩
    simp (config := { maxSteps := 4000000 }) (disch:=omega) only[go_sem,hlen,hix,aB c10,aB c12,hU,hD,i1,h0,s1,p1,hbb,aD]
    exact congrArg er ih
  | false =>
   rw[Bool.false_or]at hE
   cases bd with
   | true =>
    rw[Bool.not_true,Bool.false_and]at hE
    obtain⟨S',L',ch',y7,y8,y9,y10,y11,y12,y13,ih,hx⟩:=ihs S L ch (.iv (.bool false)) x8 x9 (.iv (.bool false)) x12 (.iv (.bool false)) (.iv (.bool true)) h0 (hR.skip fun h=>by rw[hE]at h; cases h)
    refine⟨S',L',ch',y7,y8,y9,y10,y11,y12,y13,aF K _ _ t68L1.eq_1 ?_,hx⟩
    simp (config := { maxSteps := 4000000 }) (disch:=omega) only[go_sem,hlen,hix,aB c10,aB c12,hU,hD,i1,h0,s1,aD]
    exact congrArg er ih
   | false =>
    rw[Bool.not_false,Bool.true_and]at hE
    cases ba with
    | false =>
     obtain⟨S',L',ch',y7,y8,y9,y10,y11,y12,y13,ih,hx⟩:=ihs S L ch (.iv (.bool false)) (.iv (.sl tb (TM.one (.int .i64) bl))) (.iv (.int .i64 bl.length)) (.iv (.bool true)) (.iv (.bool false)) (.iv (.bool false)) (.iv (.bool true)) h0 (hR.skip fun h=>by rw[hE]at h; cases h)
     refine⟨S',L',ch',y7,y8,y9,y10,y11,y12,y13,aF K _ _ t68L1.eq_1 ?_,hx⟩
     simp (config := { maxSteps := 4000000 }) (disch:=omega) only[go_sem,hlen,hix,aB c10,aB c12,hU,hD,aB c29,aD]
     rw[l1]
     simp (config := { maxSteps := 4000000 }) (disch:=omega) only[go_sem,i1,h0,s1,aD]
     exact congrArg er ih
    | true =>
     cases hLi:L i with
     | true =>
      rw[hLi]at s1
      obtain⟨S',L',ch',y7,y8,y9,y10,y11,y12,y13,ih,hx⟩:=ihs S L ch (.iv (.bool true)) (.iv (.sl tb (TM.one (.int .i64) bl))) (.iv (.int .i64 bl.length)) (.iv (.bool true)) (.iv (.bool false)) (.iv (.bool false)) (.iv (.bool true)) h0 (hR.skip fun _=>hLi)
      refine⟨S',L',ch',y7,y8,y9,y10,y11,y12,y13,aF K _ _ t68L1.eq_1 ?_,hx⟩
      simp (config := { maxSteps := 4000000 }) (disch:=omega) only[go_sem,hlen,hix,aB c10,aB c12,hU,hD,aB c29,aD]
      rw[l1]
      simp (config := { maxSteps := 4000000 }) (disch:=omega) only[go_sem,i1,h0,s1,aD]
      exact congrArg er ih
     | false =>
      rw[hLi]at s1
      obtain⟨S',L',ch',y7,y8,y9,y10,y11,y12,y13,ih,hx⟩:=ihs (S.set 0 (.cells 0 false (cF ins.length (bF (upd L i true))))) (upd L i true) true (.iv (.bool true)) (.iv (.sl tb (TM.one (.int .i64) bl))) (.iv (.int .i64 bl.length)) (.iv (.bool true)) (.iv (.bool false)) (.iv (.bool true)) (.iv (.bool true)) (bE hlt _) (hR.set hla hE hLi)
      refine⟨S',L',ch',y7,y8,y9,y10,y11,y12,y13,aF K _ _ t68L1.eq_1 ?_,hx⟩
      simp (config := { maxSteps := 4000000 }) (disch:=omega) only[go_sem,hlen,hix,aB c10,aB c12,hU,hD,aB c29,aD]
      rw[l1]
      simp (config := { maxSteps := 4000000 }) (disch:=omega) only[go_sem,i1,h0,s1,p1,hbb,aD]
      exact congrArg er ih
theorem aOi {fn rg sl nd pr:Int}{rs:Bool}{ti:Tag}{ins:List VI}(hn:ins.length≤1000000)(hus:∀x∈ins,x.us.length≤1000000)(hbe:∀i,i<ins.length→∀k∈iI ins i,0≤k∧k<ins.length){r:Int}(x0 x3:TV):∀(q:Nat) (S:aA) (L:Nat→Bool) (x5 x6 x7 x8 x9 x10 x11 x12 x13 x14:TV),zJ ins.length L≤q →
  S[0]? = some (.cells 0 false (cF ins.length (bF L)))→(∀j,L j=true→LvR ins r j) →
  ∃(S':aA) (L':Nat→Bool) (y5 y6 y7 y8 y9 y10 y11 y12 y13 y14:TV),lp' (lim K) t68L2 [x0,.iv (.int .i64 r),.lb [.iv (.int .i64 fn),.iv (.int .i64 rg),.iv (.int .i64 sl),.iv (.int .i64 nd),.iv (.int .i64 pr),.iv (.bool rs),.iv (.sl ti (ins.map aK))],x3,.msl 0 0 0 ins.length ins.length 1,x5,x6,x7,x8,x9,x10,x11,x12,x13,x14] S
   = .ret (.ret,[x0,.iv (.int .i64 r),.lb [.iv (.int .i64 fn),.iv (.int .i64 rg),.iv (.int .i64 sl),.iv (.int .i64 nd),.iv (.int .i64 pr),.iv (.bool rs),.iv (.sl ti (ins.map aK))],.msl 0 0 0 ins.length ins.length 1,.msl 0 0 0 ins.length ins.length 1,y5,y6,y7,y8,y9,y10,y11,y12,y13,y14],S') ∧
   S'[0]? = some (.cells 0 false (cF ins.length (bF L')))∧(∀j,L' j=true→LvR ins r j)∧∀j,j<ins.length→eqL ins r L' j=true→L' j=true
 | q,S,L,x5,x6,x7,x8,x9,x10,x11,x12,x13,x14,hq,h0,hL=>by
  obtain⟨S1,L1,ch,y7,y8,y9,y10,y11,y12,y13,l1,h1,hR⟩:=aOh (fn:=fn) (rg:=rg) (sl:=sl) (nd:=nd) (pr:=pr) (rs:=rs) (ti:=ti) hn hus hbe (r:=r) (L0:=L) x0 x3 x14 ins.length S L false x7 x8 x9 x11 x12 x13 x10 (Nat.le_refl _) h0 ⟨hL,Nat.le_refl _,(fun h=>by cases h),fun _=>⟨rfl,fun j h1 h2=>by omega⟩⟩
  have hlen:(ins.map aK).length=ins.length:=List.length_map _
  cases ch with
  | false =>
   refine⟨S1,L1,.iv (.bool false),.iv (.int .i64 (-1)),y7,y8,y9,y10,y11,y12,y13,.iv (.bool true),aF K _ _ t68L2.eq_1 ?_,h1,hR.snd,fun j hj=>(hR.no rfl).2 j (Nat.zero_le _) hj⟩
   simp (config := { maxSteps := 4000000 }) (disch:=omega) only[go_sem,hlen,aD]
   rw[l1]
   simp (config := { maxSteps := 4000000 }) (disch:=omega) only[go_sem]
  | true =>
   have hlt:=hR.yes rfl
   match q,hq with
   | 0,hq=>omega
   | q+1,hq =>
    obtain⟨S',L',z5,z6,z7,z8,z9,z10,z11,z12,z13,z14,ih,hx⟩:=aOi (fn:=fn) (rg:=rg) (sl:=sl) (nd:=nd) (pr:=pr) (rs:=rs) (ti:=ti) hn hus hbe (r:=r) x0 x3 q S1 L1 (.iv (.bool true)) (.iv (.int .i64 (-1))) y7 y8 y9 y10 y11 y12 y13 (.iv (.bool false)) (by omega) h1 hR.snd
    refine⟨S',L',z5,z6,z7,z8,z9,z10,z11,z12,z13,z14,aF K _ _ t68L2.eq_1 ?_,hx⟩
    simp (config := { maxSteps := 4000000 }) (disch:=omega) only[go_sem,hlen,aD]
    rw[l1]
    simp (config := { maxSteps := 4000000 }) (disch:=omega) only[go_sem]
    exact congrArg er ih
theorem oA:∀l:List IV,cK 1 l.length l=l.map fun x=>[x]
 | []=>rfl
 | a::r=>by simp only[List.length_cons,cK,List.take_succ_cons,List.take_zero,List.drop_succ_cons,List.drop_zero,oA r,List.map_cons]
def yA (L:Nat→Bool)(n:Nat):List (List IV):=(List.range n).map fun i=>[.bool (L i)]
theorem bHr {S:aA}{n:Nat}{L:Nat→Bool}(h:S[0]? = some (.cells 0 false (cF n (bF L))))(c:Nat):TM.resolve S (.msl 0 0 0 n c 1)=some (.iv (.sl .no (yA L n))):=by
 have e1:sub (cF n (bF L)) 0 (n*1)=some (cF n (bF L)):=lS (by rw[nY]; simp)
 have e2:toIVs (cF n (bF L))=some ((List.range n).map fun i=>.bool (L i)):=by
  have:cF n (bF L)=((List.range n).map fun i=>IV.bool (L i)).map .iv:=by rw[List.map_map]; rfl
  rw[this,iA]
 have e3:=oA ((List.range n).map fun i=>IV.bool (L i))
 rw[List.length_map,List.length_range,List.map_map]at e3
 show (match cG S (.msl 0 0 0 n c 1) with|some l=>some (IV.sl .no l)|none=>none).map TV.iv=_
 simp only[cG,h,ne_eq,not_true_eq_false,↓reduceIte,e1,e2,Option.map_some,e3]
 rfl
theorem bJ8 {bytes m n:Nat}(hr:dZ n bytes=true):mkV [.bool false] bytes m (.iv (.int .i64 n)) (.iv (.int .i64 n))=some (.msl m 0 0 n n 1,.cells 0 false (cF n (bF fun _=>false))):=by
 have hz:=aKj (.iv (.bool false)) n
 rw[show bF (fun _=>false)=fun _=>TV.iv (.bool false) from rfl]
 simp[mkV,TM.eH,hr,hz]
theorem bHs (fn rg sl nd pr:Int)(rs:Bool)(ti:Tag)(ins:List VI)(hn:ins.length≤1000000)(hus:∀x∈ins,x.us.length≤1000000)(hbe:∀i,i<ins.length→∀k∈iI ins i,0≤k∧k<ins.length)(r:Int) :
  ∃L:Nat→Bool,TM.Pure K 68 [.iv (.agg (bH fn rg sl nd pr rs ti ins)),.iv (.int .i64 r)] (.iv (.sl .no (yA L ins.length)))∧∀i,i<ins.length→(L i=true↔LvR ins r i):=by
 obtain⟨S',L',z5,z6,z7,z8,z9,z10,z11,z12,z13,z14,l1,h1,hs,hc⟩:=aOi (fn:=fn) (rg:=rg) (sl:=sl) (nd:=nd) (pr:=pr) (rs:=rs) (ti:=ti) hn hus hbe (r:=r) (.iv (.agg (bH fn rg sl nd pr rs ti ins))) (.iv (.sl .nil [])) _ [.cells 0 false (cF ins.length (bF fun _=>false))] (fun _=>false) u_ u_ u_ u_ u_ u_ u_ u_ u_ u_ (Nat.le_refl _) rfl (fun j h=>by cases h)
 have hlen:(ins.map aK).length=ins.length:=List.length_map _
 have hz:=fun k=>bJ8 (m:=k) (bytes:=1) (cX (n:=ins.length) (b:=1) (by omega))
 unfold bH at *
 refine⟨L',TM.cV (S:=S') (r:=.msl 0 0 0 ins.length ins.length 1) (aP K _ (fn:=t68) rfl rfl ?_) (bHr h1 _),fun i hi=>⟨hs i,fun h=>?_⟩⟩
 ·generalize ins.length=n at *
  simp (config := { maxSteps := 4000000 }) (disch:=omega) only[t68,go_sem,hlen,hz]
  rw[l1]
  simp (config := { maxSteps := 4000000 }) (disch:=omega) only[go_sem]
 ·induction h with
  | use h =>
   refine hc _ hi ?_
   unfold eqL
   rw[decide_eq_true h,Bool.true_or]
  | step hk h hd ih =>
   refine hc _ hi ?_
   have hkk:=hbe _ hi _ hk
   have:=ih (by omega)
   unfold eqL bHo
   rw[decide_eq_false hd,Bool.not_false,Bool.true_and,Bool.or_eq_true]
   exact .inr (List.any_eq_true.2 ⟨_,hk,this⟩)
theorem aGz {op:Int}(h:1≤op∧op≤25):TM.Pure K 133 [.iv (.int .i64 op)] (.iv (.int .i64 (aHa op)))∧TM.Pure K 124 [.iv (.int .i64 op)] (.iv (.bool (decide (op≤24))))∧TM.Pure K 125 [.iv (.int .i64 op)] (.iv (.bool (decide (op≠23))))∧TM.Pure K 126 [.iv (.int .i64 op)] (.iv (.bool (decide (op≤14∨op=25))))∧TM.Pure K 127 [.iv (.int .i64 op)] (.iv (.int .i64 (if op≤14 then 0 else 16)))∧TM.Pure K 135 [.iv (.int .i64 op)] (.iv (.int .i64 (loM op)))∧TM.Pure K 136 [.iv (.int .i64 op)] (.iv (.int .i64 (hiM op))):=by
 have:=List.all_eq_true.1 aWa (op-1).toNat (List.mem_range.2 (by omega))
 rw[show (((op-1).toNat:Nat):Int)+1=op by omega]at this
 unfold bGn at this
 simp only[Bool.and_eq_true]at this
 obtain⟨⟨⟨⟨⟨⟨h1,h2⟩,h3⟩,h4⟩,h5⟩,h6⟩,h7⟩:=this
 exact⟨tN h1,zN h2,zN h3,zN h4,tN h5,tN h6,tN h7⟩
theorem bC5 (b:Bool):TM.Pure K 134 [.iv (.bool b),.iv (.int .i64 0)] (.iv (.bool true)):=by
 refine aH t134 rfl rfl ?_
 simp (config := { maxSteps := 4000000 }) (disch:=omega) only[t134,go_sem]
theorem bC6 (op im:Int)(h:1≤op∧op≤25):TM.Pure K 122 [.iv (.agg [.int .i64 op,.int .i64 0,.int .i64 0,.int .i64 0,.int .i64 im])] (.iv (.int .i64 (if loM op≤im∧im≤hiM op then 0 else 11))):=by
 obtain⟨c83,c72,c73,c74,c75,c85,c86⟩:=aGz h
 have hf:aHa op≠0:=by unfold aHa; (repeat' split)<;>decide
 have c84:=fun b=>bC5 b
 generalize aHa op=fm at *
 generalize loM op=lo at *
 generalize hiM op=hi at *
 generalize decide (op≤24)=b1 at *
 generalize decide (op≠23)=b2 at *
 generalize decide (op≤14∨op=25)=b3 at *
 have k1:=c84 b1
 have k2:=c84 b2
 have k3:=c84 b3
 refine aH t122 rfl rfl ?_
 rcases (by omega:im<lo∨(lo≤im∧hi<im)∨(lo≤im∧im≤hi)) with h1|h1|h1
 ·rw[if_neg (by omega)]
  simp (config := { maxSteps := 4000000 }) (disch:=omega) only[t122,go_sem,aB c83,aB c72,aB c73,aB c74,aB c85,aB c86,aB k1,aB k2,aB k3]
 ·rw[if_neg (by omega)]
  simp (config := { maxSteps := 4000000 }) (disch:=omega) only[t122,go_sem,aB c83,aB c72,aB c73,aB c74,aB c85,aB c86,aB k1,aB k2,aB k3]
 ·rw[if_pos h1]
  simp (config := { maxSteps := 4000000 }) (disch:=omega) only[t122,go_sem,aB c83,aB c72,aB c73,aB c74,aB c85,aB c86,aB k1,aB k2,aB k3]
def jB (l:List Int):List (List IV):=TM.one (.int .u8) l
theorem tI (l:List Int):(jB l).length=l.length:=TM.iT ..
theorem aOj (l:List Int):jM 1 (jB l):=by
 intro y hy
 obtain⟨v,_,rfl⟩:=List.mem_map.1 hy
 exact⟨rfl,rfl⟩
theorem aC3 (l:List Int)(v:Int):jB l++[[.int .u8 v]]=jB (l++[v]):=by simp[jB,TM.one]
theorem aOk (n:Int)(x2 x3:TV):∀(k:Nat) (l:List Int) (j:Nat) (S:aA) (x5:TV),k≤100→l.length+k≤1000→At 1 5 (jB l) j S →
  ∃(l':List Int) (j':Nat) (S':aA) (y5:TV),lp' (lim K) t123L0 [acc j (jB l),.iv (.int .i64 n),x2,x3,.iv (.int .i64 ((k:Int)-1)),x5] S
   = .ret (.exit 0,[acc j' (jB l'),.iv (.int .i64 n),x2,x3,.iv (.int .i64 (-1)),y5],S')∧l'.length=l.length+k∧At 1 5 (jB l') j' S'
 | 0,l,j,S,x5,hk,hl,ha=>by
  refine⟨l,j,S,.iv (.bool false),aF K _ _ t123L0.eq_1 ?_,rfl,ha⟩
  rw[show ((0:Nat):Int)-1 = -1 from rfl]
  simp (config := { maxSteps := 4000000 }) (disch:=omega) only[go_sem]
 | k+1,l,j,S,x5,hk,hl,ha=>by
  have e0:IntKind.u64.wrap (k:Int)=(k:Int):=mJ (by omega)
  have e1:∃v,TM.binOp .shr (.iv (.int .i64 n)) (.iv (.int .u64 (k:Int)))=some (.int .i64 v):=by
   rw[TM.wJ,if_neg (by omega)]; exact⟨_,rfl⟩
  obtain⟨v1,e1⟩:=e1
  have e2:∃v,TM.binOp .and (.iv (.int .i64 v1)) (.iv (.int .i64 1))=some (.int .i64 v):=by
   rw[TM.rG]; exact⟨_,rfl⟩
  obtain⟨v2,e2⟩:=e2
  have e3:∃v,TM.cN (.toInt .u8) (.iv (.int .i64 v2))=some (.int .u8 v):=⟨_,rfl⟩
  obtain⟨v3,e3⟩:=e3
  have ap:=aVb (b:=1) (c:=[.int .u8 v3]) (t:=.full) ha ⟨rfl,rfl⟩ (aOj l) (cX (by rw[tI]; omega))
  have hat:=aKl ha [.int .u8 v3]
  rw[aC3]at ap hat
  obtain⟨l',j',S',y5,ih,hl',ha'⟩:=aOk n x2 x3 k (l++[v3]) _ _ (.iv (.bool true)) (by omega) (by simp; omega) hat
  rw[show (((k+1:Nat):Int)-1)=(k:Int) by omega]
  refine⟨l',j',S',y5,aF K _ _ t123L0.eq_1 ?_,by rw[hl']; simp; omega,ha'⟩
  simp (config := { maxSteps := 4000000 }) (disch:=omega) only[go_sem,e0,e1,e2,e3,ap,aD]
  exact congrArg er ih
theorem aEw (n:Int)(k:Nat)(l:List Int)(j:Nat)(S:aA)(hk:k≤100)(hl:l.length≤800)(ha:At 1 5 (jB l) j S) :
  ∃(l':List Int) (j':Nat) (S':aA),(lim K).call 123 [acc j (jB l),.iv (.int .i64 n),.iv (.int .i64 k)] S=.ret (acc j' (jB l'),S')∧l'.length=l.length+k∧At 1 5 (jB l') j' S':=by
 obtain⟨l',j',S',y5,l1,h1,h2⟩:=aOk n (.iv (.int .i64 k)) (.iv (.sl .nil [])) k l j S u_ hk (by omega) ha
 refine⟨l',j',S',aP K S (fn:=t123) rfl rfl ?_,h1,h2⟩
 simp (config := { maxSteps := 4000000 }) (disch:=omega) only[t123,go_sem,aD]
 rw[l1]
 simp (config := { maxSteps := 4000000 }) (disch:=omega) only[go_sem]
def aQc (op im:Int):TV:=.lb [.iv (.int .i64 op),.iv (.int .i64 0),.iv (.int .i64 0),.iv (.int .i64 0),.iv (.int .i64 im)]
theorem bJ9 (S:aA)(j:Nat)(l:List Int):aIg .sl S (acc j (jB l))=some (.iv (.int .i64 l.length)):=by rw[aJs,tI]
theorem aG0 {op im:Int}(bt:Nat)(hbt:bt≤32)(c75:TM.Pure K 127 [.iv (.int .i64 op)] (.iv (.int .i64 bt)))(x0 x2 x3 x4 x6 x7 x8 x9 x10 x11 x13:TV):∀(k:Nat) (l:List Int) (j:Nat) (S:aA) (x12:TV),l.length+bt≤100→32-(l.length+bt)=k→At 1 5 (jB l) j S →
  ∃(l':List Int) (j':Nat) (S':aA) (y12:TV),lp' (lim K) t109L1 [x0,aQc op im,x2,x3,x4,acc j (jB l),x6,x7,x8,x9,x10,x11,x12,x13] S
   = .ret (.exit 0,[x0,aQc op im,x2,x3,x4,acc j' (jB l'),x6,x7,x8,x9,x10,x11,y12,x13],S')∧32≤l'.length+bt∧l'.length+bt≤100∧At 1 5 (jB l') j' S'
 | 0,l,j,S,x12,hl,hk,ha=>by
  have hB:=bJ9 S j l
  refine⟨l,j,S,.iv (.bool false),aF K _ _ t109L1.eq_1 ?_,by omega,hl,ha⟩
  unfold aQc
  simp (config := { maxSteps := 4000000 }) (disch:=omega) only[go_sem,hB,aB c75,aD]
 | k+1,l,j,S,x12,hl,hk,ha=>by
  have hB:=bJ9 S j l
  have ap:=aVb (b:=1) (c:=[.int .u8 0]) (t:=.full) ha ⟨rfl,rfl⟩ (aOj l) (cX (by rw[tI]; omega))
  have hat:=aKl ha [.int .u8 0]
  rw[aC3]at ap hat
  obtain⟨l',j',S',y12,ih,h1,h2,h3⟩:=aG0 (op:=op) (im:=im) bt hbt c75 x0 x2 x3 x4 x6 x7 x8 x9 x10 x11 x13 k (l++[0]) _ _ (.iv (.bool true)) (by simp; omega) (by simp; omega) hat
  refine⟨l',j',S',y12,aF K _ _ t109L1.eq_1 ?_,h1,h2,h3⟩
  unfold aQc at *
  simp (config := { maxSteps := 4000000 }) (disch:=omega) only[go_sem,hB,aB c75,ap,aD]
  exact congrArg er ih
theorem bC7 {j:Nat}{l:List Int}{i:Nat}(h:i<l.length):indexAddrS 1 (acc j (jB l)) (i:Int)=some (.iv (.cp [.int .u8 (l.getD i 0)])):=by
 have h0:jB l≠[]:=by intro e; have:=tI l; rw[e]at this; simp at this; omega
 rw[nI _ h0]
 refine bJb (by omega) ?_ rfl
 rw[Int.toNat_natCast]
 simp[jB,TM.one,List.getD,List.getElem?_eq_getElem h]
theorem aG1 {l:List Int}(hl:32≤l.length)(j:Nat)(S:aA)(x0 x1 x2 x3 x4 x8 x9 x10 x11 x12:TV):∀(k i:Nat) (w:Int) (x13:TV),i+k=32 →
  ∃(w':Int) (y13:TV),lp' (lim K) t109L0 [x0,x1,x2,x3,x4,acc j (jB l),.iv (.int .u32 w),.iv (.int .i64 i),x8,x9,x10,x11,x12,x13] S
   = .ret (.exit 2,[x0,x1,x2,x3,x4,acc j (jB l),.iv (.int .u32 w'),.iv (.int .i64 32),x8,x9,x10,x11,x12,y13],S)
 | 0,i,w,x13,h=>by
  obtain rfl:i=32:=by omega
  refine⟨w,.iv (.bool false),aF K _ _ t109L0.eq_1 ?_⟩
  rw[show ((32:Nat):Int)=32 from rfl]
  simp (config := { maxSteps := 4000000 }) (disch:=omega) only[go_sem]
 | k+1,i,w,x13,h=>by
  have hix:=bC7 (j:=j) (l:=l) (i:=i) (by omega)
  generalize l.getD i 0=v at *
  obtain⟨w',y13,ih⟩:=aG1 hl j S x0 x1 x2 x3 x4 x8 x9 x10 x11 x12 k (i+1) (IntKind.u32.wrap (IntKind.u32.wrap (2*w)+IntKind.u32.wrap v)) (.iv (.bool true)) (by omega)
  rw[show ((i+1:Nat):Int)=(i:Int)+1 by omega]at ih
  refine⟨w',y13,aF K _ _ t109L0.eq_1 ?_⟩
  generalize jB l=B at *
  simp (config := { maxSteps := 4000000 }) (disch:=omega) only[go_sem,hix,aD]
  exact congrArg er ih
theorem aOl (op im:Int)(h:1≤op∧op≤25):∃w:Int,TM.Pure K 109 [.iv (.agg [.int .i64 op,.int .i64 0,.int .i64 0,.int .i64 0,.int .i64 im])] (.tup [.iv (.int .u32 w),.iv (.int .i64 (if loM op≤im∧im≤hiM op then 0 else 11))]):=by
 have c70:=bC6 op im h
 obtain⟨c83,c72,c73,c74,c75,c85,c86⟩:=aGz h
 by_cases e:loM op≤im∧im≤hiM op
 ·rw[if_pos e]at c70 ⊢
  obtain⟨bt,hbt,ebt⟩:∃bt:Nat,bt≤16∧(if op≤14 then (0:Int) else 16)=(bt:Int):=by
   by_cases h1:op≤14
   ·exact⟨0,by omega,by rw[if_pos h1]; rfl⟩
   ·exact⟨16,by omega,by rw[if_neg h1]; rfl⟩
  rw[ebt]at c75
  generalize decide (op≤24)=b1 at *
  generalize decide (op≠23)=b2 at *
  generalize decide (op≤14∨op=25)=b3 at *
  obtain⟨l1,j1,S1,q1,n1,a1⟩:=aEw op 6 [] 0 [] (by omega) (by simp) (fun h0=>absurd rfl h0)
  rw[show jB []=[] from rfl,kG,show ((6:Nat):Int)=6 from rfl]at q1
  have step:∀(b:Bool) (l:List Int) (j:Nat) (S:aA),l.length≤20→At 1 5 (jB l) j S→∃(l':List Int) (j':Nat) (S':aA),l.length≤l'.length∧l'.length≤l.length+5∧At 1 5 (jB l') j' S'∧(b=true→(lim K).call 123 [acc j (jB l),.iv (.int .i64 0),.iv (.int .i64 5)] S=.ret (acc j' (jB l'),S'))∧(b=false→l'=l∧j'=j∧S'=S):=by
   intro b l j S hl ha
   cases b with
   | true =>
    obtain⟨l',j',S',q,n,a⟩:=aEw 0 5 l j S (by omega) (by omega) ha
    exact⟨l',j',S',by omega,by omega,a,(fun _=>q),(fun h=>by cases h)⟩
   | false=>exact⟨l,j,S,by omega,by omega,ha,(fun h=>by cases h),fun _=>⟨rfl,rfl,rfl⟩⟩
  obtain⟨l2,j2,S2,m2,n2,a2,q2,r2⟩:=step b1 l1 j1 S1 (by rw[n1]; simp) a1
  obtain⟨l3,j3,S3,m3,n3,a3,q3,r3⟩:=step b2 l2 j2 S2 (by rw[n1]at n2; simp at n2; omega) a2
  obtain⟨l4,j4,S4,m4,n4,a4,q4,r4⟩:=step b3 l3 j3 S3 (by rw[n1]at n2; simp at n2; omega) a3
  rw[n1]at n2
  simp at n2
  obtain⟨l5,j5,S5,y12,lo1,g1,g2,a5⟩:=aG0 (op:=op) (im:=im) bt (by omega) c75 (.iv (.agg [.int .i64 op,.int .i64 0,.int .i64 0,.int .i64 0,.int .i64 im])) (.iv (.int .u32 0)) (.iv (.int .i64 0)) (.iv (.int .i64 0)) u_ u_ (.iv (.bool false)) (.iv (.bool b1)) (.iv (.bool b2)) (.iv (.bool b3)) u_ _ l4 j4 S4 u_ (by omega) rfl a4
  obtain⟨l6,j6,S6,q6,n6,a6⟩:=aEw im bt l5 j5 S5 (by omega) (by omega) a5
  obtain⟨w',y13,lo2⟩:=aG1 (l:=l6) (by omega) j6 S6 (.iv (.agg [.int .i64 op,.int .i64 0,.int .i64 0,.int .i64 0,.int .i64 im])) (aQc op im) (.iv (.int .u32 0)) (.iv (.int .i64 0)) (.iv (.int .i64 0)) (.iv (.bool false)) (.iv (.bool b1)) (.iv (.bool b2)) (.iv (.bool b3)) y12 32 0 0 u_ (by omega)
  rw[show ((0:Nat):Int)=0 from rfl]at lo2
  refine⟨w',?_⟩
  unfold aQc at *
  refine TM.cV (S:=S6) (r:=.tup [.iv (.int .u32 w'),.iv (.int .i64 0)]) (aP K _ (fn:=t109) rfl rfl ?_) rfl
  cases b1<;>cases b2<;>cases b3 <;>
  ·first|obtain⟨rfl,rfl,rfl⟩:=r2 rfl|have q2:=q2 rfl
   first|obtain⟨rfl,rfl,rfl⟩:=r3 rfl|have q3:=q3 rfl
   first|obtain⟨rfl,rfl,rfl⟩:=r4 rfl|have q4:=q4 rfl
   simp (config := { maxSteps := 4000000 }) (disch:=omega) only[t109,go_sem,aB c70,aB c72,aB c73,aB c74,aB c75,q1,q2,q3,q4]
   rw[lo1]
   simp (config := { maxSteps := 4000000 }) (disch:=omega) only[go_sem,aB c75,q6]
   rw[lo2]
   simp (config := { maxSteps := 4000000 }) (disch:=omega) only[go_sem]
 ·rw[if_neg e]at c70 ⊢
  refine⟨0,aH t109 rfl rfl ?_⟩
  simp (config := { maxSteps := 4000000 }) (disch:=omega) only[t109,go_sem,aB c70]
theorem kC (x:VI):TM.Pure K 110 [.iv (.agg (aK x))] (.iv (.bool (decide ((26≤x.op∧x.op≤31)∨x.op=66)))):=by
 rw[bP]
 refine aH t110 rfl rfl ?_
 rcases (by omega:x.op<26∨(26≤x.op∧x.op≤31)∨(31<x.op∧x.op≠66)∨x.op=66) with h|h|h|h
 ·rw[decide_eq_false (by omega)]; simp (config := { maxSteps := 4000000 }) (disch:=omega) only[t110,go_sem]
 ·rw[decide_eq_true (by omega)]; simp (config := { maxSteps := 4000000 }) (disch:=omega) only[t110,go_sem]
 ·rw[decide_eq_false (by omega)]; simp (config := { maxSteps := 4000000 }) (disch:=omega) only[t110,go_sem]
 ·rw[decide_eq_true (by omega)]; simp (config := { maxSteps := 4000000 }) (disch:=omega) only[t110,go_sem]
theorem dL (fn rg sl nd pr:Int)(rs:Bool)(ti:Tag)(ins:List VI)(r:Int):TM.Pure K 112 [.iv (.agg (bH fn rg sl nd pr rs ti ins)),.iv (.int .i64 r)] (.iv (.bool (!aZ rg r))):=by
 unfold bH aZ
 refine aH t112 rfl rfl ?_
 rcases (by omega:r<0∨(0≤r∧rg≤r)∨(0≤r∧r<rg)) with h|h|h
 ·rw[decide_eq_true (by omega),Bool.not_true]; simp (config := { maxSteps := 4000000 }) (disch:=omega) only[t112,go_sem]
 ·rw[decide_eq_true (by omega),Bool.not_true]; simp (config := { maxSteps := 4000000 }) (disch:=omega) only[t112,go_sem]
 ·rw[decide_eq_false (by omega),Bool.not_false]; simp (config := { maxSteps := 4000000 }) (disch:=omega) only[t112,go_sem]
theorem aOm {fn rg sl nd pr:Int}{rs:Bool}{ti:Tag}{ins:List VI}(hn:ins.length≤1000000)(x0 x3:TV)(L:Int)(S:aA):∀(k i:Nat) (x6 x7:TV),i+k=ins.length →
  ∃(y6 y7:TV),lp' (lim K) t111L0 [x0,.iv (.int .i64 L),.lb [.iv (.int .i64 fn),.iv (.int .i64 rg),.iv (.int .i64 sl),.iv (.int .i64 nd),.iv (.int .i64 pr),.iv (.bool rs),.iv (.sl ti (ins.map aK))],x3,.iv (.int .i64 (gO (ins.take i) L)),.iv (.int .i64 i),x6,x7] S
   = .ret (.exit 0,[x0,.iv (.int .i64 L),.lb [.iv (.int .i64 fn),.iv (.int .i64 rg),.iv (.int .i64 sl),.iv (.int .i64 nd),.iv (.int .i64 pr),.iv (.bool rs),.iv (.sl ti (ins.map aK))],x3,.iv (.int .i64 (gO ins L)),.iv (.int .i64 ins.length),y6,y7],S)
 | 0,i,x6,x7,h=>by
  obtain rfl:i=ins.length:=by omega
  rw[List.take_length]
  have hlen:(ins.map aK).length=ins.length:=List.length_map _
  refine⟨.iv (.bool false),x7,aF K _ _ t111L0.eq_1 ?_⟩
  simp (config := { maxSteps := 4000000 }) (disch:=omega) only[go_sem,hlen]
 | k+1,i,x6,x7,h=>by
  have hla:i<ins.length:=by omega
  have hlen:(ins.map aK).length=ins.length:=List.length_map _
  have hix:=gJ (w:=8) (f:=aK) eQ (t:=ti) (l:=ins) (i:=(i:Int)) (by omega)
  rw[Int.toNat_natCast,bP]at hix
  have hts:ins.take (i+1)=ins.take i++[ins.getD i default]:=by
   rw[List.take_add_one,List.getElem?_eq_getElem hla]
   simp[List.getD,List.getElem?_eq_getElem hla]
  have hsn:=aC2 (ins.take i) (ins.getD i default) L
  rw[←hts]at hsn
  have hle:=aOf (ins.take i) L
  rw[List.length_take]at hle
  have ihs:=fun x6 x7=>aOm (fn:=fn) (rg:=rg) (sl:=sl) (nd:=nd) (pr:=pr) (rs:=rs) (ti:=ti) hn x0 x3 L S k (i+1) x6 x7 (by omega)
  rw[show ((i+1:Nat):Int)=(i:Int)+1 by omega,hsn]at ihs
  generalize ins.getD i default=x at *
  generalize gO (ins.take i) L=c at *
  by_cases e:x.op=65∧x.lb=L
  ·rw[if_pos e]at ihs
   obtain⟨y6,y7,ih⟩:=ihs (.iv (.bool true)) (.iv (.bool true))
   obtain⟨e1,e2⟩:=e
   refine⟨y6,y7,aF K _ _ t111L0.eq_1 ?_⟩
   simp (config := { maxSteps := 4000000 }) (disch:=omega) only[go_sem,hlen,hix,aD]
   exact congrArg er ih
  ·rw[if_neg e]at ihs
   obtain⟨y6,y7,ih⟩:=ihs (.iv (.bool true)) (.iv (.bool false))
   refine⟨y6,y7,aF K _ _ t111L0.eq_1 ?_⟩
   by_cases e1:x.op=65
   ·have e2:¬x.lb=L:=fun h=>e ⟨e1,h⟩
    simp (config := { maxSteps := 4000000 }) (disch:=omega) only[go_sem,hlen,hix,aD]
    exact congrArg er ih
   ·simp (config := { maxSteps := 4000000 }) (disch:=omega) only[go_sem,hlen,hix,aD]
    exact congrArg er ih
theorem qW (fn rg sl nd pr:Int)(rs:Bool)(ti:Tag)(ins:List VI)(hn:ins.length≤1000000)(L:Int):TM.Pure K 111 [.iv (.agg (bH fn rg sl nd pr rs ti ins)),.iv (.int .i64 L)] (.iv (.int .i64 (gO ins L))):=by
 obtain⟨y6,y7,l1⟩:=aOm (fn:=fn) (rg:=rg) (sl:=sl) (nd:=nd) (pr:=pr) (rs:=rs) (ti:=ti) hn (.iv (.agg (bH fn rg sl nd pr rs ti ins))) (.iv (.int .i64 0)) L [] ins.length 0 u_ u_ (by omega)
 rw[show ((0:Nat):Int)=0 from rfl,show gO (ins.take 0) L=0 from rfl]at l1
 unfold bH at *
 refine aH t111 rfl rfl ?_
 simp (config := { maxSteps := 4000000 }) (disch:=omega) only[t111,go_sem]
 rw[l1]
 simp (config := { maxSteps := 4000000 }) (disch:=omega) only[go_sem]
theorem pL {fn rg sl nd pr:Int}{rs:Bool}{ti:Tag}{ins:List VI}(x:VI)(hu:x.us.length≤1000000)(x0 x1 x5 x7 x8 x9 x10:TV)(S:aA):∀(k i:Nat) (x11 x12:TV),i+k=x.us.length →
  ∃(jj:aU) (y4 y6 y11 y12:TV),lp' (lim K) t85L0 [x0,x1,.lb [.iv (.int .i64 fn),.iv (.int .i64 rg),.iv (.int .i64 sl),.iv (.int .i64 nd),.iv (.int .i64 pr),.iv (.bool rs),.iv (.sl ti (ins.map aK))],.lb [.iv (.int .i64 x.op),.iv (.int .i64 x.d),.iv (.int .i64 x.a),.iv (.int .i64 x.b),.iv (.int .i64 x.im),.iv (.int .i64 x.lb),.iv (.sl x.tu (TM.one (.int .i64) x.us)),.iv (.sl x.tm (TM.one (.int .i64) x.mp))],.iv (.bool false),x5,.iv (.int .i64 i),x7,x8,x9,x10,x11,x12] S
   = .ret (jj,[x0,x1,.lb [.iv (.int .i64 fn),.iv (.int .i64 rg),.iv (.int .i64 sl),.iv (.int .i64 nd),.iv (.int .i64 pr),.iv (.bool rs),.iv (.sl ti (ins.map aK))],.lb [.iv (.int .i64 x.op),.iv (.int .i64 x.d),.iv (.int .i64 x.a),.iv (.int .i64 x.b),.iv (.int .i64 x.im),.iv (.int .i64 x.lb),.iv (.sl x.tu (TM.one (.int .i64) x.us)),.iv (.sl x.tm (TM.one (.int .i64) x.mp))],y4,x5,y6,x7,x8,x9,x10,y11,y12],S) ∧
   (jj=.exit 0∧y4=.iv (.bool false)∧(x.us.drop i).any (aZ rg)=false∨jj=.ret∧y4=.iv (.bool false)∧(x.us.drop i).any (aZ rg)=true)
 | 0,i,x11,x12,h=>by
  obtain rfl:i=x.us.length:=by omega
  rw[List.drop_length]
  refine⟨.exit 0,.iv (.bool false),.iv (.int .i64 x.us.length),.iv (.bool false),x12,aF K _ _ t85L0.eq_1 ?_,.inl ⟨rfl,rfl,rfl⟩⟩
  simp (config := { maxSteps := 4000000 }) (disch:=omega) only[go_sem]
 | k+1,i,x11,x12,h=>by
  have hla:i<x.us.length:=by omega
  have hix:=jZ (f:=IV.int .i64) (t:=x.tu) (l:=x.us) (i:=(i:Int)) (by omega)
  rw[Int.toNat_natCast]at hix
  have c55:=dL fn rg sl nd pr rs ti ins (x.us.getD i default)
  unfold bH at c55
  rw[eX hla,List.any_cons]
  obtain⟨jj,y4,y6,y11,y12,ih,hj⟩:=pL (fn:=fn) (rg:=rg) (sl:=sl) (nd:=nd) (pr:=pr) (rs:=rs) (ti:=ti) (ins:=ins) x hu x0 x1 x5 x7 x8 x9 x10 S k (i+1) (.iv (.bool true)) (.iv (.bool false)) (by omega)
  rw[show ((i+1:Nat):Int)=(i:Int)+1 by omega]at ih
  cases hb:aZ rg (x.us.getD i default) with
  | true =>
   rw[hb,Bool.not_true]at c55
   refine⟨.ret,.iv (.bool false),.iv (.int .i64 i),.iv (.bool true),.iv (.bool true),aF K _ _ t85L0.eq_1 ?_,.inr ⟨rfl,rfl,rfl⟩⟩
   simp (config := { maxSteps := 4000000 }) (disch:=omega) only[go_sem,hix,aB c55]
  | false =>
   rw[hb,Bool.not_false]at c55
   refine⟨jj,y4,y6,y11,y12,aF K _ _ t85L0.eq_1 ?_,by rw[Bool.false_or]; exact hj⟩
   simp (config := { maxSteps := 4000000 }) (disch:=omega) only[go_sem,hix,aB c55,aD]
   exact congrArg er ih
theorem bKa (fn rg sl nd pr:Int)(rs:Bool)(ti:Tag)(ins:List VI)(hn:ins.length≤1000000)(x:VI)(hu:x.us.length≤1000000)(h:jA x.op x.im=false):TM.Pure K 85 [.iv (.agg (bH fn rg sl nd pr rs ti ins)),.iv (.agg (aK x))] (.iv (.bool false)):=by
  unfold jA vN at h
  simp only[Bool.or_eq_false_iff,Bool.and_eq_false_iff,decide_eq_false_iff_not]at h
  obtain⟨h1,h2⟩:=h
  rw[bP]
  unfold bH
  refine aH t85 rfl rfl ?_
  by_cases h3:1≤x.op∧x.op≤25
  · obtain⟨w,c52⟩:=aOl x.op x.im h3
    rw [if_neg (by rcases h1 with h1 | h1; · exact absurd h3 h1
                   · exact h1)]at c52
    simp (config := { maxSteps := 4000000 }) (disch:=omega) only[t85,go_sem,aB c52]
  · rcases (by omega:x.op<1∨(31<x.op∧x.op<64)∨72<x.op) with h|h|h
    · simp (config := { maxSteps := 4000000 }) (disch:=omega) only[t85,go_sem,bH]
    · simp (config := { maxSteps := 4000000 }) (disch:=omega) only[t85,go_sem,bH]
    · simp (config := { maxSteps := 4000000 }) (disch:=omega) only[t85,go_sem,bH]
theorem bHt (fn rg sl nd pr:Int)(rs:Bool)(ti:Tag)(ins:List VI)(hn:ins.length≤1000000)(x:VI)(hu:x.us.length≤1000000)(h:1≤x.op∧x.op≤25)(hpl:loM x.op≤x.im∧x.im≤hiM x.op):TM.Pure K 85 [.iv (.agg (bH fn rg sl nd pr rs ti ins)),.iv (.agg (aK x))] (.iv (.bool (!(x.us.any (aZ rg))&&(!(aZ rg x.a)&&!(aZ rg x.b)&&!(aZ rg x.d))))):=by
 have c53:=kC x
 rw[decide_eq_false (by omega)]at c53
 obtain⟨w,c52⟩:=aOl x.op x.im h
 rw[if_pos hpl]at c52
 have cA:=dL fn rg sl nd pr rs ti ins x.a
 have cB:=dL fn rg sl nd pr rs ti ins x.b
 have cD:=dL fn rg sl nd pr rs ti ins x.d
 obtain⟨jj,y4,y6,y11,y12,l1,hj⟩:=pL (fn:=fn) (rg:=rg) (sl:=sl) (nd:=nd) (pr:=pr) (rs:=rs) (ti:=ti) (ins:=ins) x hu (.iv (.agg (bH fn rg sl nd pr rs ti ins))) (.iv (.agg (aK x))) (.iv (.int .i64 0)) (.iv (.bool false)) (.iv (.bool true)) (.iv (.bool false)) (.iv (.bool false)) [] x.us.length 0 u_ u_ (by omega)
 rw[show ((0:Nat):Int)=0 from rfl]at l1
 rw[List.drop_zero]at hj
 rw[bP]at c53 l1 ⊢
 unfold bH at *
 refine aH t85 rfl rfl ?_
 rcases hj with⟨rfl,rfl,hj⟩|⟨rfl,rfl,hj⟩
 ·rw[hj,Bool.not_false,Bool.true_and]
  generalize aZ rg x.a=bA at *
  generalize aZ rg x.b=bB at *
  generalize aZ rg x.d=bD at *
  cases bA with
  | true =>
   simp only[Bool.not_true,Bool.not_false,Bool.false_and,Bool.true_and]at *
   simp (config := { maxSteps := 4000000 }) (disch:=omega) only[t85,go_sem,aB c52,aB c53]
   rw[l1]
   simp (config := { maxSteps := 4000000 }) (disch:=omega) only[go_sem,aB cA,aB cB,aB cD,Bool.not_true,Bool.not_false]
  | false =>
   cases bB with
   | true =>
    simp only[Bool.not_true,Bool.not_false,Bool.false_and,Bool.true_and]at *
    simp (config := { maxSteps := 4000000 }) (disch:=omega) only[t85,go_sem,aB c52,aB c53]
    rw[l1]
    simp (config := { maxSteps := 4000000 }) (disch:=omega) only[go_sem,aB cA,aB cB,aB cD,Bool.not_true,Bool.not_false]
   | false =>
    cases bD <;>
    ·simp only[Bool.not_true,Bool.not_false,Bool.false_and,Bool.true_and]at *
     simp (config := { maxSteps := 4000000 }) (disch:=omega) only[t85,go_sem,aB c52,aB c53]
     rw[l1]
     simp (config := { maxSteps := 4000000 }) (disch:=omega) only[go_sem,aB cA,aB cB,aB cD,Bool.not_true,Bool.not_false]
 ·rw[hj,Bool.not_true,Bool.false_and]
  simp (config := { maxSteps := 4000000 }) (disch:=omega) only[t85,go_sem,aB c52,aB c53]
  rw[l1]
  simp (config := { maxSteps := 4000000 }) (disch:=omega) only[go_sem,aB cA]
theorem bHu (fn rg sl nd pr:Int)(rs:Bool)(ti:Tag)(ins:List VI)(hn:ins.length≤1000000)(x:VI)(hu:x.us.length≤1000000)(h:x.op=64∨(68≤x.op∧x.op≤72)):TM.Pure K 85 [.iv (.agg (bH fn rg sl nd pr rs ti ins)),.iv (.agg (aK x))] (.iv (.bool (!(x.us.any (aZ rg))&&(!(aZ rg x.a)&&!(aZ rg x.b)&&!(aZ rg x.d))))):=by
 have c53:=kC x
 rw[decide_eq_false (by omega)]at c53
 have cA:=dL fn rg sl nd pr rs ti ins x.a
 have cB:=dL fn rg sl nd pr rs ti ins x.b
 have cD:=dL fn rg sl nd pr rs ti ins x.d
 obtain⟨jj,y4,y6,y11,y12,l1,hj⟩:=pL (fn:=fn) (rg:=rg) (sl:=sl) (nd:=nd) (pr:=pr) (rs:=rs) (ti:=ti) (ins:=ins) x hu (.iv (.agg (bH fn rg sl nd pr rs ti ins))) (.iv (.agg (aK x))) u_ (.iv (.bool false)) (.iv (.bool false)) u_ (.iv (.bool false)) [] x.us.length 0 u_ u_ (by omega)
 rw[show ((0:Nat):Int)=0 from rfl]at l1
 rw[List.drop_zero]at hj
 rw[bP]at c53 l1 ⊢
 unfold bH at *
 refine aH t85 rfl rfl ?_
 rcases hj with⟨rfl,rfl,hj⟩|⟨rfl,rfl,hj⟩
 ·rw[hj,Bool.not_false,Bool.true_and]
  generalize aZ rg x.a=bA at *
  generalize aZ rg x.b=bB at *
  generalize aZ rg x.d=bD at *
  cases bA with
  | true =>
   simp only[Bool.not_true,Bool.not_false,Bool.false_and,Bool.true_and]at *
   simp (config := { maxSteps := 4000000 }) (disch:=omega) only[t85,go_sem,aB c53]
   rw[l1]
   simp (config := { maxSteps := 4000000 }) (disch:=omega) only[go_sem,aB cA,aB cB,aB cD,Bool.not_true,Bool.not_false]
  | false =>
   cases bB with
   | true =>
    simp only[Bool.not_true,Bool.not_false,Bool.false_and,Bool.true_and]at *
    simp (config := { maxSteps := 4000000 }) (disch:=omega) only[t85,go_sem,aB c53]
    rw[l1]
    simp (config := { maxSteps := 4000000 }) (disch:=omega) only[go_sem,aB cA,aB cB,aB cD,Bool.not_true,Bool.not_false]
   | false =>
    cases bD <;>
    ·simp only[Bool.not_true,Bool.not_false,Bool.false_and,Bool.true_and]at *
     simp (config := { maxSteps := 4000000 }) (disch:=omega) only[t85,go_sem,aB c53]
     rw[l1]
     simp (config := { maxSteps := 4000000 }) (disch:=omega) only[go_sem,aB cA,aB cB,aB cD,Bool.not_true,Bool.not_false]
 ·rw[hj,Bool.not_true,Bool.false_and]
  simp (config := { maxSteps := 4000000 }) (disch:=omega) only[t85,go_sem,aB c53]
  rw[l1]
  simp (config := { maxSteps := 4000000 }) (disch:=omega) only[go_sem,aB cA]
theorem bKb (fn rg sl nd pr:Int)(rs:Bool)(ti:Tag)(ins:List VI)(hn:ins.length≤1000000)(x:VI)(hu:x.us.length≤1000000)(h:26≤x.op∧x.op≤31)(hc:gO ins x.lb≠1):TM.Pure K 85 [.iv (.agg (bH fn rg sl nd pr rs ti ins)),.iv (.agg (aK x))] (.iv (.bool false)):=by
 have c53:=kC x
 rw[decide_eq_true (by omega)]at c53
 have c54:=qW fn rg sl nd pr rs ti ins hn x.lb
 rw[bP]at c53 ⊢
 unfold bH at *
 refine aH t85 rfl rfl ?_
 generalize gO ins x.lb=cn at *
 simp (config := { maxSteps := 4000000 }) (disch:=omega) only[t85,go_sem,aB c54,aB c53]
theorem bHv (fn rg sl nd pr:Int)(rs:Bool)(ti:Tag)(ins:List VI)(hn:ins.length≤1000000)(x:VI)(hu:x.us.length≤1000000)(h:26≤x.op∧x.op≤31)(hc:gO ins x.lb=1):TM.Pure K 85 [.iv (.agg (bH fn rg sl nd pr rs ti ins)),.iv (.agg (aK x))] (.iv (.bool (!(x.us.any (aZ rg))&&(!(aZ rg x.a)&&!(aZ rg x.b)&&!(aZ rg x.d))))):=by
 have c53:=kC x
 rw[decide_eq_true (by omega)]at c53
 have c54:=qW fn rg sl nd pr rs ti ins hn x.lb
 have cA:=dL fn rg sl nd pr rs ti ins x.a
 have cB:=dL fn rg sl nd pr rs ti ins x.b
 have cD:=dL fn rg sl nd pr rs ti ins x.d
 rw[hc]at c54
 obtain⟨jj,y4,y6,y11,y12,l1,hj⟩:=pL (fn:=fn) (rg:=rg) (sl:=sl) (nd:=nd) (pr:=pr) (rs:=rs) (ti:=ti) (ins:=ins) x hu (.iv (.agg (bH fn rg sl nd pr rs ti ins))) (.iv (.agg (aK x))) u_ (.iv (.bool false)) (.iv (.bool false)) u_ (.iv (.bool false)) [] x.us.length 0 u_ u_ (by omega)
 rw[show ((0:Nat):Int)=0 from rfl]at l1
 rw[List.drop_zero]at hj
 rw[bP]at c53 l1 ⊢
 unfold bH at *
 refine aH t85 rfl rfl ?_
 rcases hj with⟨rfl,rfl,hj⟩|⟨rfl,rfl,hj⟩
 ·rw[hj,Bool.not_false,Bool.true_and]
  generalize aZ rg x.a=bA at *
  generalize aZ rg x.b=bB at *
  generalize aZ rg x.d=bD at *
  cases bA with
  | true =>
   simp only[Bool.not_true,Bool.not_false,Bool.false_and,Bool.true_and]at *
   simp (config := { maxSteps := 4000000 }) (disch:=omega) only[t85,go_sem,aB c54,aB c53]
   rw[l1]
   simp (config := { maxSteps := 4000000 }) (disch:=omega) only[go_sem,aB cA,aB cB,aB cD,Bool.not_true,Bool.not_false]
  | false =>
   cases bB with
   | true =>
    simp only[Bool.not_true,Bool.not_false,Bool.false_and,Bool.true_and]at *
    simp (config := { maxSteps := 4000000 }) (disch:=omega) only[t85,go_sem,aB c54,aB c53]
    rw[l1]
    simp (config := { maxSteps := 4000000 }) (disch:=omega) only[go_sem,aB cA,aB cB,aB cD,Bool.not_true,Bool.not_false]
   | false =>
    cases bD <;>
    ·simp only[Bool.not_true,Bool.not_false,Bool.false_and,Bool.true_and]at *
     simp (config := { maxSteps := 4000000 }) (disch:=omega) only[t85,go_sem,aB c54,aB c53]
     rw[l1]
     simp (config := { maxSteps := 4000000 }) (disch:=omega) only[go_sem,aB cA,aB cB,aB cD,Bool.not_true,Bool.not_false]
 ·rw[hj,Bool.not_true,Bool.false_and]
  simp (config := { maxSteps := 4000000 }) (disch:=omega) only[t85,go_sem,aB c54,aB c53]
  rw[l1]
  simp (config := { maxSteps := 4000000 }) (disch:=omega) only[go_sem,aB cA]
theorem bKc (fn rg sl nd pr:Int)(rs:Bool)(ti:Tag)(ins:List VI)(hn:ins.length≤1000000)(x:VI)(hu:x.us.length≤1000000)(h:x.op=66)(hc:gO ins x.lb≠1):TM.Pure K 85 [.iv (.agg (bH fn rg sl nd pr rs ti ins)),.iv (.agg (aK x))] (.iv (.bool false)):=by
 have c53:=kC x
 rw[decide_eq_true (by omega)]at c53
 have c54:=qW fn rg sl nd pr rs ti ins hn x.lb
 rw[bP]at c53 ⊢
 unfold bH at *
 refine aH t85 rfl rfl ?_
 generalize gO ins x.lb=cn at *
 simp (config := { maxSteps := 4000000 }) (disch:=omega) only[t85,go_sem,aB c54,aB c53]
theorem bHw (fn rg sl nd pr:Int)(rs:Bool)(ti:Tag)(ins:List VI)(hn:ins.length≤1000000)(x:VI)(hu:x.us.length≤1000000)(h:x.op=66)(hc:gO ins x.lb=1):TM.Pure K 85 [.iv (.agg (bH fn rg sl nd pr rs ti ins)),.iv (.agg (aK x))] (.iv (.bool (!(x.us.any (aZ rg))&&(!(aZ rg x.a)&&!(aZ rg x.b)&&!(aZ rg x.d))))):=by
 have c53:=kC x
 rw[decide_eq_true (by omega)]at c53
 have c54:=qW fn rg sl nd pr rs ti ins hn x.lb
 have cA:=dL fn rg sl nd pr rs ti ins x.a
 have cB:=dL fn rg sl nd pr rs ti ins x.b
 have cD:=dL fn rg sl nd pr rs ti ins x.d
 rw[hc]at c54
 obtain⟨jj,y4,y6,y11,y12,l1,hj⟩:=pL (fn:=fn) (rg:=rg) (sl:=sl) (nd:=nd) (pr:=pr) (rs:=rs) (ti:=ti) (ins:=ins) x hu (.iv (.agg (bH fn rg sl nd pr rs ti ins))) (.iv (.agg (aK x))) u_ (.iv (.bool false)) (.iv (.bool false)) u_ (.iv (.bool false)) [] x.us.length 0 u_ u_ (by omega)
 rw[show ((0:Nat):Int)=0 from rfl]at l1
 rw[List.drop_zero]at hj
 rw[bP]at c53 l1 ⊢
 unfold bH at *
 refine aH t85 rfl rfl ?_
 rcases hj with⟨rfl,rfl,hj⟩|⟨rfl,rfl,hj⟩
 ·rw[hj,Bool.not_false,Bool.true_and]
  generalize aZ rg x.a=bA at *
  generalize aZ rg x.b=bB at *
  generalize aZ rg x.d=bD at *
  cases bA with
  | true =>
   simp only[Bool.not_true,Bool.not_false,Bool.false_and,Bool.true_and]at *
   simp (config := { maxSteps := 4000000 }) (disch:=omega) only[t85,go_sem,aB c54,aB c53]
   rw[l1]
   simp (config := { maxSteps := 4000000 }) (disch:=omega) only[go_sem,aB cA,aB cB,aB cD,Bool.not_true,Bool.not_false]
  | false =>
   cases bB with
   | true =>
    simp only[Bool.not_true,Bool.not_false,Bool.false_and,Bool.true_and]at *
    simp (config := { maxSteps := 4000000 }) (disch:=omega) only[t85,go_sem,aB c54,aB c53]
    rw[l1]
    simp (config := { maxSteps := 4000000 }) (disch:=omega) only[go_sem,aB cA,aB cB,aB cD,Bool.not_true,Bool.not_false]
   | false =>
    cases bD <;>
    ·simp only[Bool.not_true,Bool.not_false,Bool.false_and,Bool.true_and]at *
     simp (config := { maxSteps := 4000000 }) (disch:=omega) only[t85,go_sem,aB c54,aB c53]
     rw[l1]
     simp (config := { maxSteps := 4000000 }) (disch:=omega) only[go_sem,aB cA,aB cB,aB cD,Bool.not_true,Bool.not_false]
 ·rw[hj,Bool.not_true,Bool.false_and]
  simp (config := { maxSteps := 4000000 }) (disch:=omega) only[t85,go_sem,aB c54,aB c53]
  rw[l1]
  simp (config := { maxSteps := 4000000 }) (disch:=omega) only[go_sem,aB cA]
theorem bKd (fn rg sl nd pr:Int)(rs:Bool)(ti:Tag)(ins:List VI)(hn:ins.length≤1000000)(x:VI)(hu:x.us.length≤1000000)(h:x.op=65)(hc:gO ins x.lb≠1):TM.Pure K 85 [.iv (.agg (bH fn rg sl nd pr rs ti ins)),.iv (.agg (aK x))] (.iv (.bool false)):=by
 have c53:=kC x
 rw[decide_eq_false (by omega)]at c53
 have c54:=qW fn rg sl nd pr rs ti ins hn x.lb
 rw[bP]at c53 ⊢
 unfold bH at *
 refine aH t85 rfl rfl ?_
 generalize gO ins x.lb=cn at *
 simp (config := { maxSteps := 4000000 }) (disch:=omega) only[t85,go_sem,aB c54,aB c53]
theorem bHx (fn rg sl nd pr:Int)(rs:Bool)(ti:Tag)(ins:List VI)(hn:ins.length≤1000000)(x:VI)(hu:x.us.length≤1000000)(h:x.op=65)(hc:gO ins x.lb=1):TM.Pure K 85 [.iv (.agg (bH fn rg sl nd pr rs ti ins)),.iv (.agg (aK x))] (.iv (.bool (!(x.us.any (aZ rg))&&(!(aZ rg x.a)&&!(aZ rg x.b)&&!(aZ rg x.d))))):=by
 have c53:=kC x
 rw[decide_eq_false (by omega)]at c53
 have c54:=qW fn rg sl nd pr rs ti ins hn x.lb
 have cA:=dL fn rg sl nd pr rs ti ins x.a
 have cB:=dL fn rg sl nd pr rs ti ins x.b
 have cD:=dL fn rg sl nd pr rs ti ins x.d
 rw[hc]at c54
 obtain⟨jj,y4,y6,y11,y12,l1,hj⟩:=pL (fn:=fn) (rg:=rg) (sl:=sl) (nd:=nd) (pr:=pr) (rs:=rs) (ti:=ti) (ins:=ins) x hu (.iv (.agg (bH fn rg sl nd pr rs ti ins))) (.iv (.agg (aK x))) u_ (.iv (.bool false)) (.iv (.bool false)) u_ (.iv (.bool false)) [] x.us.length 0 u_ u_ (by omega)
 rw[show ((0:Nat):Int)=0 from rfl]at l1
 rw[List.drop_zero]at hj
 rw[bP]at c53 l1 ⊢
 unfold bH at *
 refine aH t85 rfl rfl ?_
 rcases hj with⟨rfl,rfl,hj⟩|⟨rfl,rfl,hj⟩
 ·rw[hj,Bool.not_false,Bool.true_and]
  generalize aZ rg x.a=bA at *
  generalize aZ rg x.b=bB at *
  generalize aZ rg x.d=bD at *
  cases bA with
  | true =>
   simp only[Bool.not_true,Bool.not_false,Bool.false_and,Bool.true_and]at *
   simp (config := { maxSteps := 4000000 }) (disch:=omega) only[t85,go_sem,aB c54,aB c53]
   rw[l1]
   simp (config := { maxSteps := 4000000 }) (disch:=omega) only[go_sem,aB cA,aB cB,aB cD,Bool.not_true,Bool.not_false]
  | false =>
   cases bB with
   | true =>
    simp only[Bool.not_true,Bool.not_false,Bool.false_and,Bool.true_and]at *
    simp (config := { maxSteps := 4000000 }) (disch:=omega) only[t85,go_sem,aB c54,aB c53]
    rw[l1]
    simp (config := { maxSteps := 4000000 }) (disch:=omega) only[go_sem,aB cA,aB cB,aB cD,Bool.not_true,Bool.not_false]
   | false =>
    cases bD <;>
    ·simp only[Bool.not_true,Bool.not_false,Bool.false_and,Bool.true_and]at *
     simp (config := { maxSteps := 4000000 }) (disch:=omega) only[t85,go_sem,aB c54,aB c53]
     rw[l1]
     simp (config := { maxSteps := 4000000 }) (disch:=omega) only[go_sem,aB cA,aB cB,aB cD,Bool.not_true,Bool.not_false]
 ·rw[hj,Bool.not_true,Bool.false_and]
  simp (config := { maxSteps := 4000000 }) (disch:=omega) only[t85,go_sem,aB c54,aB c53]
  rw[l1]
  simp (config := { maxSteps := 4000000 }) (disch:=omega) only[go_sem,aB cA]
theorem bHy (fn rg sl nd pr:Int)(rs:Bool)(ti:Tag)(ins:List VI)(hn:ins.length≤1000000)(x:VI)(hu:x.us.length≤1000000)(h:x.op=67∧x.d<0):TM.Pure K 85 [.iv (.agg (bH fn rg sl nd pr rs ti ins)),.iv (.agg (aK x))] (.iv (.bool (!(x.us.any (aZ rg))&&(!(aZ rg x.a)&&!(aZ rg x.b))))):=by
 have c53:=kC x
 rw[decide_eq_false (by omega)]at c53
 have cA:=dL fn rg sl nd pr rs ti ins x.a
 have cB:=dL fn rg sl nd pr rs ti ins x.b
 have cD:=dL fn rg sl nd pr rs ti ins x.d
 obtain⟨jj,y4,y6,y11,y12,l1,hj⟩:=pL (fn:=fn) (rg:=rg) (sl:=sl) (nd:=nd) (pr:=pr) (rs:=rs) (ti:=ti) (ins:=ins) x hu (.iv (.agg (bH fn rg sl nd pr rs ti ins))) (.iv (.agg (aK x))) u_ (.iv (.bool false)) (.iv (.bool false)) u_ (.iv (.bool false)) [] x.us.length 0 u_ u_ (by omega)
 rw[show ((0:Nat):Int)=0 from rfl]at l1
 rw[List.drop_zero]at hj
 rw[bP]at c53 l1 ⊢
 unfold bH at *
 refine aH t85 rfl rfl ?_
 rcases hj with⟨rfl,rfl,hj⟩|⟨rfl,rfl,hj⟩
 ·rw[hj,Bool.not_false,Bool.true_and]
  generalize aZ rg x.a=bA at *
  generalize aZ rg x.b=bB at *
  generalize aZ rg x.d=bD at *
  cases bA with
  | true =>
   simp only[Bool.not_true,Bool.not_false,Bool.false_and,Bool.true_and]at *
   simp (config := { maxSteps := 4000000 }) (disch:=omega) only[t85,go_sem,aB c53]
   rw[l1]
   simp (config := { maxSteps := 4000000 }) (disch:=omega) only[go_sem,aB cA,aB cB,aB cD,Bool.not_true,Bool.not_false]
  | false =>
   cases bB with
   | true =>
    simp only[Bool.not_true,Bool.not_false,Bool.false_and,Bool.true_and]at *
    simp (config := { maxSteps := 4000000 }) (disch:=omega) only[t85,go_sem,aB c53]
    rw[l1]
    simp (config := { maxSteps := 4000000 }) (disch:=omega) only[go_sem,aB cA,aB cB,aB cD,Bool.not_true,Bool.not_false]
   | false =>
    cases bD <;>
    ·simp only[Bool.not_true,Bool.not_false,Bool.false_and,Bool.true_and]at *
     simp (config := { maxSteps := 4000000 }) (disch:=omega) only[t85,go_sem,aB c53]
     rw[l1]
     simp (config := { maxSteps := 4000000 }) (disch:=omega) only[go_sem,aB cA,aB cB,aB cD,Bool.not_true,Bool.not_false]
 ·rw[hj,Bool.not_true,Bool.false_and]
  simp (config := { maxSteps := 4000000 }) (disch:=omega) only[t85,go_sem,aB c53]
  rw[l1]
  simp (config := { maxSteps := 4000000 }) (disch:=omega) only[go_sem,aB cA]
theorem bHz (fn rg sl nd pr:Int)(rs:Bool)(ti:Tag)(ins:List VI)(hn:ins.length≤1000000)(x:VI)(hu:x.us.length≤1000000)(h:x.op=67∧0≤x.d):TM.Pure K 85 [.iv (.agg (bH fn rg sl nd pr rs ti ins)),.iv (.agg (aK x))] (.iv (.bool (!(x.us.any (aZ rg))&&(!(aZ rg x.a)&&!(aZ rg x.b)&&!(aZ rg x.d))))):=by
 have c53:=kC x
 rw[decide_eq_false (by omega)]at c53
 have cA:=dL fn rg sl nd pr rs ti ins x.a
 have cB:=dL fn rg sl nd pr rs ti ins x.b
 have cD:=dL fn rg sl nd pr rs ti ins x.d
 obtain⟨jj,y4,y6,y11,y12,l1,hj⟩:=pL (fn:=fn) (rg:=rg) (sl:=sl) (nd:=nd) (pr:=pr) (rs:=rs) (ti:=ti) (ins:=ins) x hu (.iv (.agg (bH fn rg sl nd pr rs ti ins))) (.iv (.agg (aK x))) u_ (.iv (.bool false)) (.iv (.bool false)) u_ (.iv (.bool false)) [] x.us.length 0 u_ u_ (by omega)
 rw[show ((0:Nat):Int)=0 from rfl]at l1
 rw[List.drop_zero]at hj
 rw[bP]at c53 l1 ⊢
 unfold bH at *
 refine aH t85 rfl rfl ?_
 rcases hj with⟨rfl,rfl,hj⟩|⟨rfl,rfl,hj⟩
 ·rw[hj,Bool.not_false,Bool.true_and]
  generalize aZ rg x.a=bA at *
  generalize aZ rg x.b=bB at *
  generalize aZ rg x.d=bD at *
  cases bA with
  | true =>
   simp only[Bool.not_true,Bool.not_false,Bool.false_and,Bool.true_and]at *
   simp (config := { maxSteps := 4000000 }) (disch:=omega) only[t85,go_sem,aB c53]
   rw[l1]
   simp (config := { maxSteps := 4000000 }) (disch:=omega) only[go_sem,aB cA,aB cB,aB cD,Bool.not_true,Bool.not_false]
  | false =>
   cases bB with
   | true =>
    simp only[Bool.not_true,Bool.not_false,Bool.false_and,Bool.true_and]at *
    simp (config := { maxSteps := 4000000 }) (disch:=omega) only[t85,go_sem,aB c53]
    rw[l1]
    simp (config := { maxSteps := 4000000 }) (disch:=omega) only[go_sem,aB cA,aB cB,aB cD,Bool.not_true,Bool.not_false]
   | false =>
    cases bD <;>
    ·simp only[Bool.not_true,Bool.not_false,Bool.false_and,Bool.true_and]at *
     simp (config := { maxSteps := 4000000 }) (disch:=omega) only[t85,go_sem,aB c53]
     rw[l1]
     simp (config := { maxSteps := 4000000 }) (disch:=omega) only[go_sem,aB cA,aB cB,aB cD,Bool.not_true,Bool.not_false]
 ·rw[hj,Bool.not_true,Bool.false_and]
  simp (config := { maxSteps := 4000000 }) (disch:=omega) only[t85,go_sem,aB c53]
  rw[l1]
  simp (config := { maxSteps := 4000000 }) (disch:=omega) only[go_sem,aB cA]
theorem bH0 (fn rg sl nd pr:Int)(rs:Bool)(ti:Tag)(ins:List VI)(hn:ins.length≤1000000)(x:VI)(hu:x.us.length≤1000000):TM.Pure K 85 [.iv (.agg (bH fn rg sl nd pr rs ti ins)),.iv (.agg (aK x))] (.iv (.bool (!pK rg ins x))):=by
 have hbad:pK rg ins x=(!jA x.op x.im||((dC x).any (aZ rg)||(eU x&&decide (gO ins x.lb≠1)))):=rfl
 have hreg:x.op≠67∨0≤x.d→(dC x).any (aZ rg)=(aZ rg x.a||(aZ rg x.b||(x.us.any (aZ rg)||aZ rg x.d))):=fun h=>by
  unfold dC; rw[if_pos h]; simp
 have hreg':¬(x.op≠67∨0≤x.d)→(dC x).any (aZ rg)=(aZ rg x.a||(aZ rg x.b||x.us.any (aZ rg))):=fun h=>by
  unfold dC; rw[if_neg h]; simp
 cases hf:jA x.op x.im with
 | false =>
  have:=bKa fn rg sl nd pr rs ti ins hn x hu hf
  rw[hbad,hf]
  exact this
 | true =>
  rw[hbad,hf]
  have hf':=hf
  unfold jA vN at hf'
  simp only[Bool.or_eq_true,Bool.and_eq_true,decide_eq_true_eq]at hf'
  by_cases h1:1≤x.op∧x.op≤25
  ·have hpl:loM x.op≤x.im∧x.im≤hiM x.op:=by
    rcases hf' with hf'|hf'
    ·exact hf'.2
    ·omega
   have hg:eU x=false:=by unfold eU; simp; omega
   have:=bHt fn rg sl nd pr rs ti ins hn x hu h1 hpl
   rw[hg,hreg (by omega)]
   revert this
   cases aZ rg x.a<;>cases aZ rg x.b<;>cases aZ rg x.d<;>cases x.us.any (aZ rg)<;>exact id
  ·by_cases h2:(26≤x.op∧x.op≤31)∨x.op=66
   ·have hg:eU x=true:=by unfold eU; simp; omega
    rw[hg,hreg (by omega)]
    rcases h2 with h2|h2
    ·by_cases hc:gO ins x.lb=1
     ·have:=bHv fn rg sl nd pr rs ti ins hn x hu h2 hc
      rw[decide_eq_false (fun h=>h hc)]
      revert this
      cases aZ rg x.a<;>cases aZ rg x.b<;>cases aZ rg x.d<;>cases x.us.any (aZ rg)<;>exact id
     ·have:=bKb fn rg sl nd pr rs ti ins hn x hu h2 hc
      rw[decide_eq_true hc]
      revert this
      cases aZ rg x.a<;>cases aZ rg x.b<;>cases aZ rg x.d<;>cases x.us.any (aZ rg)<;>exact id
    ·by_cases hc:gO ins x.lb=1
     ·have:=bHw fn rg sl nd pr rs ti ins hn x hu h2 hc
      rw[decide_eq_false (fun h=>h hc)]
      revert this
      cases aZ rg x.a<;>cases aZ rg x.b<;>cases aZ rg x.d<;>cases x.us.any (aZ rg)<;>exact id
     ·have:=bKc fn rg sl nd pr rs ti ins hn x hu h2 hc
      rw[decide_eq_true hc]
      revert this
      cases aZ rg x.a<;>cases aZ rg x.b<;>cases aZ rg x.d<;>cases x.us.any (aZ rg)<;>exact id
   ·by_cases h3:x.op=65
    ·have hg:eU x=true:=by unfold eU; simp; omega
     rw[hg,hreg (by omega)]
     by_cases hc:gO ins x.lb=1
     ·have:=bHx fn rg sl nd pr rs ti ins hn x hu h3 hc
      rw[decide_eq_false (fun h=>h hc)]
      revert this
      cases aZ rg x.a<;>cases aZ rg x.b<;>cases aZ rg x.d<;>cases x.us.any (aZ rg)<;>exact id
     ·have:=bKd fn rg sl nd pr rs ti ins hn x hu h3 hc
      rw[decide_eq_true hc]
      revert this
      cases aZ rg x.a<;>cases aZ rg x.b<;>cases aZ rg x.d<;>cases x.us.any (aZ rg)<;>exact id
    ·have hg:eU x=false:=by unfold eU; simp; omega
     rw[hg]
     by_cases h4:x.op=67
     ·by_cases h5:x.d<0
      ·have:=bHy fn rg sl nd pr rs ti ins hn x hu ⟨h4,h5⟩
       rw[hreg' (by omega)]
       revert this
       cases aZ rg x.a<;>cases aZ rg x.b<;>cases x.us.any (aZ rg)<;>exact id
      ·have:=bHz fn rg sl nd pr rs ti ins hn x hu ⟨h4,by omega⟩
       rw[hreg (by omega)]
       revert this
       cases aZ rg x.a<;>cases aZ rg x.b<;>cases aZ rg x.d<;>cases x.us.any (aZ rg)<;>exact id
     ·have:=bHu fn rg sl nd pr rs ti ins hn x hu (by omega)
      rw[hreg (by omega)]
      revert this
      cases aZ rg x.a<;>cases aZ rg x.b<;>cases aZ rg x.d<;>cases x.us.any (aZ rg)<;>exact id
theorem aVm {fn rg sl nd pr:Int}{rs:Bool}{ti:Tag}{ins:List VI}(hn:ins.length≤1000000)(hus:∀x∈ins,x.us.length≤1000000)(x0 x4 x5 x8:TV)(S:aA):∀(k i:Nat) (x6 x7:TV),i+k=ins.length →
  ∃(jj:aU) (y2 y3 y6 y7:TV),lp' (lim K) t67L0 [x0,.lb [.iv (.int .i64 fn),.iv (.int .i64 rg),.iv (.int .i64 sl),.iv (.int .i64 nd),.iv (.int .i64 pr),.iv (.bool rs),.iv (.sl ti (ins.map aK))],.iv (.int .i64 0),.iv (.int .i64 i),x4,x5,x6,x7,x8] S
   = .ret (jj,[x0,.lb [.iv (.int .i64 fn),.iv (.int .i64 rg),.iv (.int .i64 sl),.iv (.int .i64 nd),.iv (.int .i64 pr),.iv (.bool rs),.iv (.sl ti (ins.map aK))],y2,y3,x4,x5,y6,y7,x8],S) ∧
   (jj=.exit 0∧y2=.iv (.int .i64 0)∧(ins.drop i).any (pK rg ins)=false∨jj=.ret∧y2=.iv (.int .i64 2)∧(ins.drop i).any (pK rg ins)=true)
 | 0,i,x6,x7,h=>by
  obtain rfl:i=ins.length:=by omega
  rw[List.drop_length]
  have hlen:(ins.map aK).length=ins.length:=List.length_map _
  refine⟨.exit 0,.iv (.int .i64 0),.iv (.int .i64 ins.length),.iv (.bool false),x7,aF K _ _ t67L0.eq_1 ?_,.inl ⟨rfl,rfl,rfl⟩⟩
  simp (config := { maxSteps := 4000000 }) (disch:=omega) only[go_sem,hlen]
 | k+1,i,x6,x7,h=>by
  have hla:i<ins.length:=by omega
  have hlen:(ins.map aK).length=ins.length:=List.length_map _
  have hix:=gJ (w:=8) (f:=aK) eQ (t:=ti) (l:=ins) (i:=(i:Int)) (by omega)
  rw[Int.toNat_natCast,bP]at hix
  have hmem:ins.getD i default∈ins:=by simp only[List.getD,List.getElem?_eq_getElem hla,Option.getD_some]; exact List.getElem_mem _
  have c39:=bH0 fn rg sl nd pr rs ti ins hn (ins.getD i default) (hus _ hmem)
  rw[bP]at c39
  unfold bH at c39
  rw[eX hla,List.any_cons]
  obtain⟨jj,y2,y3,y6,y7,ih,hj⟩:=aVm (fn:=fn) (rg:=rg) (sl:=sl) (nd:=nd) (pr:=pr) (rs:=rs) (ti:=ti) hn hus x0 x4 x5 x8 S k (i+1) (.iv (.bool true)) (.iv (.bool false)) (by omega)
  rw[show ((i+1:Nat):Int)=(i:Int)+1 by omega]at ih
  generalize pK rg ins (ins.getD i default)=b at *
  generalize ins.getD i default=x at *
  cases b with
  | true =>
   rw[Bool.not_true]at c39
   refine⟨.ret,.iv (.int .i64 2),.iv (.int .i64 i),.iv (.bool true),.iv (.bool true),aF K _ _ t67L0.eq_1 ?_,.inr ⟨rfl,rfl,rfl⟩⟩
   simp (config := { maxSteps := 4000000 }) (disch:=omega) only[go_sem,hlen,hix,aB c39]
  | false =>
   rw[Bool.not_false]at c39
   refine⟨jj,y2,y3,y6,y7,aF K _ _ t67L0.eq_1 ?_,by rw[Bool.false_or]; exact hj⟩
   simp (config := { maxSteps := 4000000 }) (disch:=omega) only[go_sem,hlen,hix,aB c39,aD]
   exact congrArg er ih
theorem aVn (fn rg sl nd pr:Int)(rs:Bool)(ti:Tag)(ins:List VI)(hn:ins.length≤1000000)(hus:∀x∈ins,x.us.length≤1000000):TM.Pure K 67 [.iv (.agg (bH fn rg sl nd pr rs ti ins))] (.iv (.int .i64 (if aB1 rg sl nd pr ins then 0 else 2))):=by
 unfold aB1
 have hlen:(ins.map aK).length=ins.length:=List.length_map _
 by_cases hh:sG rg sl nd pr ins
 ·rw[decide_eq_true hh,Bool.true_and]
  obtain⟨h1,h2,h3,h4,h5⟩:=hh
  obtain⟨jj,y2,y3,y6,y7,l1,hj⟩:=aVm (fn:=fn) (rg:=rg) (sl:=sl) (nd:=nd) (pr:=pr) (rs:=rs) (ti:=ti) (ins:=ins) hn hus (.iv (.agg (bH fn rg sl nd pr rs ti ins))) u_ (.iv (.bool false)) u_ [] ins.length 0 u_ u_ (by omega)
  rw[show ((0:Nat):Int)=0 from rfl]at l1
  rw[List.drop_zero]at hj
  have hix:=gJ (w:=8) (f:=aK) eQ (t:=ti) (l:=ins) (i:=((ins.length:Int)-1)) (by omega)
  rw[show ((ins.length:Int)-1).toNat=ins.length-1 by omega,bP]at hix
  unfold aKn
  generalize ins.getD (ins.length-1) default=x at *
  unfold bH at *
  have h5':¬((ins.length:Nat):Int)=0:=by omega
  rcases hj with⟨rfl,rfl,hj⟩|⟨rfl,rfl,hj⟩
  ·rw[hj,Bool.not_false,Bool.true_and]
   rcases (by omega:x.op=66∨x.op=68∨x.op=72∨(x.op≠66∧x.op≠68∧x.op≠72)) with h|h|h|⟨ha,hb,hd⟩
   ·rw[decide_eq_true (.inl h),if_pos rfl]
    refine aH t67 rfl rfl ?_
    simp (config := { maxSteps := 4000000 }) (disch:=omega) only[t67,go_sem,hlen,h5']
    rw[l1]
    simp (config := { maxSteps := 4000000 }) (disch:=omega) only[go_sem,hlen,hix,aD]
   ·rw[decide_eq_true (.inr (.inl h)),if_pos rfl]
    refine aH t67 rfl rfl ?_
    simp (config := { maxSteps := 4000000 }) (disch:=omega) only[t67,go_sem,hlen,h5']
    rw[l1]
    simp (config := { maxSteps := 4000000 }) (disch:=omega) only[go_sem,hlen,hix,aD]
   ·rw[decide_eq_true (.inr (.inr h)),if_pos rfl]
    refine aH t67 rfl rfl ?_
    simp (config := { maxSteps := 4000000 }) (disch:=omega) only[t67,go_sem,hlen,h5']
    rw[l1]
    simp (config := { maxSteps := 4000000 }) (disch:=omega) only[go_sem,hlen,hix,aD]
   ·rw[decide_eq_false (by omega),if_neg (by decide)]
    refine aH t67 rfl rfl ?_
    simp (config := { maxSteps := 4000000 }) (disch:=omega) only[t67,go_sem,hlen,h5']
    rw[l1]
    simp (config := { maxSteps := 4000000 }) (disch:=omega) only[go_sem,hlen,hix,aD]
  ·rw[hj,Bool.not_true,Bool.false_and,if_neg (by decide)]
   refine aH t67 rfl rfl ?_
   simp (config := { maxSteps := 4000000 }) (disch:=omega) only[t67,go_sem,hlen,h5']
   rw[l1]
   simp (config := { maxSteps := 4000000 }) (disch:=omega) only[go_sem]
 ·rw[decide_eq_false hh,Bool.false_and,if_neg (by decide)]
  unfold sG at hh
  refine aH t67 rfl rfl ?_
  unfold bH
  rcases (by omega:rg<32∨(32≤rg∧nd<0)∨(32≤rg∧0≤nd∧sl<0)∨(32≤rg∧0≤nd∧0≤sl∧pr<0)∨(32≤rg∧0≤nd∧0≤sl∧0≤pr∧ins.length=0)) with h|h|h|h|h
  ·simp (config := { maxSteps := 4000000 }) (disch:=omega) only[t67,go_sem,hlen]
  ·simp (config := { maxSteps := 4000000 }) (disch:=omega) only[t67,go_sem,hlen]
  ·simp (config := { maxSteps := 4000000 }) (disch:=omega) only[t67,go_sem,hlen]
  ·simp (config := { maxSteps := 4000000 }) (disch:=omega) only[t67,go_sem,hlen]
  ·have h0:((ins.length:Nat):Int)=0:=by omega
   simp (config := { maxSteps := 4000000 }) (disch:=omega) only[t67,go_sem,hlen,h0]
end Go.Proofs.YtmlhjdekfihdnaaGreatDoor
