/- Part P4 of the proof. -/
import Derived.Test.YthjhclclibpijaaGreatDoorP3
import Derived.Test.YthjhclclibpijaaGreatDoorP2
import Derived.ChangeSame
set_option linter.all false
set_option maxHeartbeats 4000000
set_option maxRecDepth 100000
namespace Go.Lift
open Go Go.ChangeShapes Go.WideShapes
variable {P:Program}
def zks {G:Nat→Option IFun} (hT:zw3 P G) (hmix:P.follows .mixedOrders=true) {f:Nat} {args:Array Value} {ds:Ld} {W:World} {b:Bool} {st' :St}
  (hrep:RepC (z53 W) ds args.toList) (hcall:z06 G (.fn f [] []) (ds.map V.d) {s:= [],next:=0,low:=0} =some (.d (.bool b),st')):
  Calls P f args W fun e W' =>e= .returned (.bool b)∧W'.os=W.os∧W'.output=W.output∧W.heap.size≤W'.heap.size∧∀i,i<W.heap.size→W'.heap[i]?=W.heap[i]?:=by
 obtain⟨n,hn⟩:=z6q.1 hcall
 have hinv:Inv P z0i {s:= [],next:=0,low:=0} (zac (z53 W)) W:=zaw fun _ _ _ h=>h
 have hu:RepV (zac (z53 W)) (.fn f [] []) (.func (.func f) #[] #[]):=by
  simp only[RepV]
  exact⟨_,_,rfl,z1h,z1h⟩
 have h:=zvc hT hmix n (.fn f [] []) (ds.map V.d) _ _ _ hn (zac (z53 W)) W (.func (.func f) #[] #[]) args hinv hu (z11.2 hrep)
 cases n with
 |zero=>simp[call] at hn
 |succ n=>
  have hf:∃F,G f=some F:=by
   simp only[call] at hn
   split at hn
   ·cases hn
   ·exact⟨_,by assumption⟩
  obtain⟨F,hF⟩:=hf
  obtain⟨d,vs,ws,e,hv,hw,h1,h2⟩:=zg2 hT hF (w:=W) (us:=args) hu
  cases e
  have hrun: ((do let d←Deferred.ofValue (.func (.func f) #[] #[]) args;invoke d.target d.args:Sem Next)).run P W= .ok (.enter f args) W:=by
   obtain⟨fn,k1,k2,_,_,k3⟩:=hT f F hF
   have hb' :fn.body≠none:=fun e=>by rw[e] at k3;cases k3
   have hnm:fn.name≠ "runtime.NumGoroutine" :=fun e=>by rw[e] at k2;simp at k2
   simp[Deferred.ofValue,invoke,callFunc,k1,hnm,hb',Sem.run]
  rw[hrun] at h
  refine ((callsIn_wide (n:=0)).1 h).mono fun e W' ⟨v,he,g',hv',hi,hs,_⟩=> ?_
  simp only[RepV,RepD] at hv'
  subst hv'
  exact⟨he,hs.os,hs.output,hs.size,fun i hi=>hs.same i hi z8a⟩
def zoi {W W' :World} (h:∀i,i<W.heap.size→W'.heap[i]?=W.heap[i]?) {p:MemPlace} (hp:p.block<W.heap.size):W.sameAt W' p:=by
 cases p with
 |cell b off=>
  simp only[World.sameAt,World.cell?]
  rw[h b hp]
 |map b=>exact h b hp
theorem zb5 {H:Type} {enc:TypeId×Value→H} (hl:laidOutB P=true) {W W' :World} (h:∀i,i<W.heap.size→W'.heap[i]?=W.heap[i]?) {sp:Nat→Bool} :∀{ts:List TypeId} {vs:List Value} {ds:List (DataW H)} {ps:List MemPlace},
  (∀t∈ts,P.readableRec t=true∧t<P.types.size)→(∀p∈ps,p.block<W.heap.size)→(∀p∈ps,sp p.block=true)→DataW.TrodAll enc P W 0 (fun _=>true) true ts vs ds ps→DataW.TrodAll enc P W' 0 sp true ts vs ds ps
 | [],vs,ds,ps,_,_,_,hr=>by
  obtain⟨rfl,rfl,rfl⟩:=trodAll_nil hr
  exact trodAll_mk0
 |t::ts,vs,ds,ps,ht,hp,hs,hr=>by
  obtain⟨v,vs1,d,ds1,p,q,rfl,rfl,rfl,h1,h2⟩:=trodAll_cons hr
  obtain⟨k1,k2⟩:=ht t ψ
  exact⟨p,q,WideElems.Trod_stays hl k1 k2 h1 (fun x hx=>zoi h (hp x (List.mem_append_left _ hx))) (fun x hx=>hs x (List.mem_append_left _ hx)),zb5 hl h (fun t ht' =>ht t (List.mem_cons_of_mem _ ht')) (fun x hx=>hp x (List.mem_append_right _ hx)) (fun x hx=>hs x (List.mem_append_right _ hx)) h2,rfl⟩
def zjp {tb:TypeId} {H:Type} {enc:TypeId×Value→H} {f:Func} {s:ChangeSpec} {apart handsOn:Bool} {W W' :World} {args:Array Value} {b:Bool} {ds gs:List (DataW H)} {before:List MemPlace}
  (hl:laidOutB P=true) (hts:∀t∈f.params.toList,P.readableRec t=true∧t<P.types.size) (hv:s.vars= [])
  (hres:f.resultTypes.toList= [tb]) (hrs:f.resultTypes.size=1) (htb:P.underlying tb=some .bool)
  (hfn:s.fn H (ds++gs)= {results:= [.lit (.bool b)],args:=ds}) (hW:DataW.Whole enc P f.params.toList s.vars apart W args.toList ds gs before)
  (h:W'.os=W.os∧W'.output=W.output∧W.heap.size≤W'.heap.size∧∀i,i<W.heap.size→W'.heap[i]?=W.heap[i]?):
  s.post enc P f apart true handsOn false W args (.bool b) W' :=by
 obtain⟨ho,hu,hsz,hh⟩:=h
 have hlt:∀p∈before,p.block<W.heap.size:=fun p hp=>hW.lt p hp
 have hW' :=hW
 obtain⟨p,q,hA,hV,rfl,hfz,hnd⟩:=hW
 rw[hv] at hV
 obtain⟨hgs,hq⟩:gs= []∧q= []:=by
  cases gs with
  |nil=>exact⟨rfl,by simpa [DataW.TrodVars] using hV⟩
  |cons g gs=>simp[DataW.TrodVars] at hV
 subst hq
 refine⟨ds,gs,_,[],p,[],hW',?_,?_,?_,?_,fun h=>by cases h⟩
 ·rw[hres,hfn,hrs]
  exact trodAll_mk1 ⟨1,by simp[DataW.trod,htb,Value.cells]⟩
 ·rw[hfn]
  exact zb5 hl hh hts (fun x hx=>hlt x (by simp[hx])) (fun x hx=>by simpa using hlt x (by simp[hx])) hA
 ·rw[hv,hfn]
  rfl
 ·refine⟨ho,hu,fun i hi=> ?_⟩
  rw[hh i hi]
  cases W.heap[i]? with
  |none=>rfl
  |some o=>cases o with
   |cells c t fr=>exact⟨rfl,rfl,rfl,fun _ _=>rfl⟩
   |map es c=>exact .inr ⟨rfl,rfl⟩
   |_=>rfl
end Go.Lift
namespace Go.Lift
open Go
abbrev oo (d:Nat) (k:IK):IOp:=⟨some d,k,none,[]⟩
abbrev om (d x:Nat):IOp:=⟨some d,.mv (.t x),none,[]⟩
abbrev og (d:Nat) (k:IK) (g:Nat):IOp:=⟨some d,k,some (g,false),[]⟩
abbrev gm (d x g:Nat):IOp:=⟨some d,.mv (.t x),some (g,false),[]⟩
abbrev ot (d:Nat) (k:IK) (g:Nat):IOp:=⟨some d,k,some (g,true),[]⟩
abbrev ok (d:Nat) (k:IK) (l:List Nat):IOp:=⟨some d,k,none,l⟩
abbrev os (k:IK):IOp:=⟨none,k,none,[]⟩
abbrev ci (n:Int):Opd:= .c (.d (.int .i64 n))
abbrev cb (n:Int):Opd:= .c (.d (.int .u8 n))
abbrev ct:Opd:= .c (.d (.bool true))
abbrev cf:Opd:= .c (.d (.bool false))
abbrev kl (n x:Nat):IK:= .load n false (.t x)
abbrev kL (n x:Nat):IK:= .load n true (.t x)
abbrev kf (n x:Nat):IK:= .faddr n (.t x)
abbrev kn (x:Nat):IK:= .len false (.t x)
abbrev ki (n x y:Nat):IK:= .iaddrS n (.t x) (.t y)
abbrev ks (n x y:Nat):IK:= .store n (.t x) (.t y)
abbrev kb (o:BinOp) (x y:Nat):IK:= .bin o (.t x) (.t y)
abbrev kc (o:BinOp) (x:Nat) (n:Int):IK:= .bin o (.t x) (ci n)
abbrev km (n:Int):IK:= .mv (ci n)
abbrev ke (n x:Nat):IK:= .ext n (.t x)
abbrev kx (n x:Nat):IK:= .box n (.t x)
abbrev ka (f:Nat) (l:List Opd):IK:= .call (.f f) l
abbrev kF:IK:= .mv cf
abbrev kT:IK:= .mv ct
abbrev kp (x y:Nat):IK:= .pick (.t x) ct (.t y)
abbrev sq (n:Nat) (l:List IOp) (r:IC):IC:= .seq (.reg n l) r
abbrev lh (t i n d:Nat) (r:IC):IC:=sq 1 [oo t (kb .lss i n)] (.seq (.cond (.t t) .skip (.exit d)) r)
abbrev li (t i:Nat):IC:= .reg 2 [oo t (kc .add i 1),om i t]
end Go.Lift
namespace Go.Lift.T1
open Go Go.Lift
abbrev q3_129:IC:= (sq 19 [om 129 14,oo 130 (kc .eql 129 0),om 131 130,ot 132 (.mv (.t 16)) 131,ot 133 (kc .eql 132 0) 131,oo 134 (.pick (.t 131) (.t 133) cf),om 135 134,ot 136 (.mv (.t 22)) 135,ot 137 (.mv (.t 13)) 135,ot 138 (.eqB false (.t 136) (.t 137)) 135,oo 139 (.pick (.t 135) (.t 138) cf),om 140 139,ot 141 (.mv (.t 18)) 140,ot 142 (kc .eql 141 5) 140,oo 143 (.pick (.t 140) (.t 142) cf),om 144 143,ot 145 (ka 14 []) 144,oo 146 (.pick (.t 144) (.t 145) cf),om 6 146]
 .ret)
abbrev q3_124:IC:= (sq 7 [oo 124 (kL 2 7),oo 125 (kL 2 7),oo 126 (ka 12 [.t 124,.t 125]),om 123 126,oo 127 (ke 0 123),oo 128 (ke 1 123),om 18 128]
 q3_129)
abbrev q3_118:IC:= (sq 8 [oo 118 (kL 2 21),oo 119 (kL 2 9),oo 120 (ka 8 [.t 118,.t 119]),om 117 120,oo 121 (ke 0 117),oo 122 (ke 1 117),om 22 121,om 16 122]
 q3_124)
abbrev q3_112:IC:= (sq 9 [oo 112 (kL 2 7),ok 113 (ka 13 [ci 1]) [7],oo 114 (ka 12 [.t 112,.t 113]),om 111 114,oo 115 (ke 0 111),oo 116 (ke 1 111),oo 21 (.alloc 6 [.nilS,.nilS]),os (ks 2 21 115),om 14 116]
 q3_118)
abbrev q3_75:IC:= (.seq (sq 36 [om 75 14,oo 76 (kc .neq 75 0),om 77 76,gm 78 16 77,og 79 (kc .neq 78 0) 77,oo 80 (kp 77 79),om 81 80,gm 82 18 81,og 83 (kc .neq 82 0) 81,oo 84 (kp 81 83),om 85 84,gm 86 20 85,og 87 (kc .neq 86 0) 85,oo 88 (kp 85 87),om 89 88,gm 90 13 89,gm 91 15 89,og 92 (.eqB true (.t 90) (.t 91)) 89,oo 93 (kp 89 92),om 94 93,og 95 (kL 2 9) 94,og 96 (kL 2 10) 94,og 97 (ka 10 [.t 95,.t 96]) 94,og 98 (.un .not (.t 97)) 94,oo 99 (kp 94 98),om 100 99,gm 101 17 100,gm 102 19 100,og 103 (ka 11 [.t 101,.t 102]) 100,og 104 (.un .not (.t 103)) 100,oo 105 (kp 100 104),om 106 105,gm 107 17 106,og 108 (kn 107) 106,og 109 (kc .eql 108 0) 106,oo 110 (kp 106 109)]
 (.cond (.t 110) (sq 1 [oo 6 kF]
 .ret)
 .skip))
 q3_112)
abbrev q3_70:IC:= (sq 8 [oo 70 (kL 2 7),oo 71 (kL 2 10),oo 72 (ka 9 [.t 70,.t 71]),om 69 72,oo 73 (ke 0 69),oo 74 (ke 1 69),om 19 73,om 20 74]
 q3_75)
abbrev q3_64:IC:= (sq 8 [oo 64 (kL 2 7),oo 65 (kL 2 9),oo 66 (ka 9 [.t 64,.t 65]),om 63 66,oo 67 (ke 0 63),oo 68 (ke 1 63),om 17 67,om 18 68]
 q3_70)
abbrev q3_58:IC:= (sq 8 [oo 58 (kL 2 7),oo 59 (kL 2 10),oo 60 (ka 8 [.t 58,.t 59]),om 57 60,oo 61 (ke 0 57),oo 62 (ke 1 57),om 15 61,om 16 62]
 q3_64)
abbrev q3_52:IC:= (sq 8 [oo 52 (kL 2 7),oo 53 (kL 2 9),oo 54 (ka 8 [.t 52,.t 53]),om 51 54,oo 55 (ke 0 51),oo 56 (ke 1 51),om 13 55,om 14 56]
 q3_58)
abbrev q3_35:IC:= (.seq (sq 4 [oo 35 (kf 1 9),oo 36 (kl 1 35),oo 37 (kn 36),oo 38 (km 0)]
 (.block 0 (.loop (lh 39 38 37 0
 (.seq (.block 1 (sq 4 [oo 40 (ki 2 36 38),oo 41 (kL 2 40),oo 12 (.alloc 2 [.nilS,.d (.int .i64 0)]),os (ks 2 12 41)]
 (.reg 9 [oo 42 (kf 1 10),oo 43 (kl 1 42),om 44 8,oo 45 (kL 2 12),ok 46 (ka 7 [.t 44,.t 45]) [42],ok 47 (.mkSl 5 2 true true [.nilS,.d (.int .i64 0)] 1 [(0,.t 46)]) [42],oo 48 (.append 6 2 true 32 (.t 43) (.t 47)),oo 49 (kf 1 10),os (ks 1 49 48)])))
 (li 50 38))))))
 q3_52)
def i3:IFun:= ⟨147,(sq 1 [oo 6 kF]
 (sq 8 [om 23 0,oo 24 (ka 5 [.t 23]),oo 25 (ka 4 [.t 24,ci 3,ci 4]),om 26 2,oo 27 (ka 5 [.t 26]),oo 7 (.alloc 5 [.nilS,.nilS]),os (ks 2 7 25),om 8 27]
 (sq 6 [om 28 1,oo 30 (kL 2 7),ok 29 (ka 5 [.t 28]) [7],oo 31 (ka 6 [.t 29,.t 30,ci 5]),oo 9 (.alloc 4 [.d (.str []),.nilS]),os (ks 2 9 31)]
 (sq 5 [oo 32 (kf 0 9),oo 33 (kl 1 32),oo 34 (.build [.d (.str []),.nilS] [(0,1,.t 33)]),oo 10 (.alloc 3 [.d (.str []),.nilS]),os (ks 2 10 34)]
 q3_35)))),[.t 6],true,false,true,false⟩
abbrev q4_96:IC:= (.reg 12 [oo 96 (kf 1 14),oo 97 (kl 1 96),om 98 15,oo 99 (.mkSl 3 1 false true [.d (.str [])] 1 [(0,.t 98)]),oo 100 (.append 4 1 false 16 (.t 97) (.t 99)),om 101 12,om 102 15,oo 103 (.mkSl 7 1 false true [.d (.str [])] 1 [(0,.t 102)]),oo 104 (.append 8 1 false 16 (.t 101) (.t 103)),oo 105 (kf 1 14),os (ks 1 105 100),om 12 104])
abbrev q4_77:IC:= (.seq (sq 2 [om 77 13,oo 78 (km 0)]
 (.block 6 (.loop (lh 79 78 77 6
 (.seq (.block 7 (sq 7 [om 80 12,oo 81 (kn 80),oo 82 (.bin .add (ci 97) (.t 81)),oo 83 (.convI .i32 (.t 82)),oo 84 (.convS (.t 83)),oo 85 (.bin .add (.c (.d (.str [118]))) (.t 84)),om 15 85]
 (.seq (sq 7 [om 86 12,oo 87 (kn 86),oo 88 (kc .gtr 87 0),om 89 88,ot 90 (.mv (.t 0)) 89,ot 91 (ka 17 [.t 90,ci 8]) 89,oo 92 (.pick (.t 89) (.t 91) cf)]
 (.cond (.t 92) (.reg 4 [om 93 12,oo 94 (.iaddrS 1 (.t 93) (ci 0)),oo 95 (kl 1 94),om 15 95])
 .skip))
 q4_96)))
 (li 106 78))))))
 (.reg 7 [oo 107 (kf 1 11),oo 108 (kl 1 107),oo 109 (kL 2 14),oo 110 (.mkSl 3 2 true true [.d (.str []),.nilS] 1 [(0,.t 109)]),oo 111 (.append 4 2 true 40 (.t 108) (.t 110)),oo 112 (kf 1 11),os (ks 1 112 111)]))
abbrev q4_117:IC:= (lh 117 116 115 8
 (.seq (.block 9 (sq 11 [oo 118 (kf 0 7),oo 119 (kl 1 118),om 120 0,oo 121 (kf 0 7),oo 122 (kl 1 121),oo 123 (kn 122),ok 124 (ka 16 [.t 120,.t 123]) [118],oo 125 (ki 3 119 124),oo 126 (kL 3 125),oo 16 (.alloc 9 [.d (.str []),.d (.int .i64 0),.d (.int .i64 0)]),os (ks 3 16 126)]
 (sq 5 [oo 127 (kf 0 16),oo 128 (kl 1 127),oo 129 (.build [.d (.str []),.nilS] [(0,1,.t 128)]),oo 17 (.alloc 3 [.d (.str []),.nilS]),os (ks 2 17 129)]
 (.seq (sq 3 [oo 130 (kf 1 16),oo 131 (kl 1 130),oo 132 (km 0)]
 (.block 10 (.loop (lh 133 132 131 10
 (.seq (.block 11 (sq 3 [om 134 12,oo 135 (kn 134),oo 136 (kc .gtr 135 0)]
 (.cond (.t 136) (.reg 13 [oo 137 (kf 1 17),oo 138 (kl 1 137),om 139 12,om 140 0,om 141 12,oo 142 (kn 141),ok 143 (ka 16 [.t 140,.t 142]) [137],oo 144 (ki 1 139 143),oo 145 (kl 1 144),ok 146 (.mkSl 9 1 false true [.d (.str [])] 1 [(0,.t 145)]) [137],oo 147 (.append 10 1 false 16 (.t 138) (.t 146)),oo 148 (kf 1 17),os (ks 1 148 147)])
 .skip)))
 (li 149 132))))))
 (sq 6 [oo 150 (kf 1 17),oo 151 (kl 1 150),oo 152 (kn 151),oo 153 (kf 1 16),oo 154 (kl 1 153),oo 155 (kb .eql 152 154)]
 (.cond (.t 155) (.reg 7 [oo 156 (kf 2 11),oo 157 (kl 1 156),oo 158 (kL 2 17),oo 159 (.mkSl 3 2 true true [.d (.str []),.nilS] 1 [(0,.t 158)]),oo 160 (.append 4 2 true 40 (.t 157) (.t 159)),oo 161 (kf 2 11),os (ks 1 161 160)])
 .skip))))))
 (li 162 116)))
abbrev q4_64:IC:= (lh 64 63 62 4
 (.seq (.block 5 (sq 3 [om 65 0,oo 66 (ka 16 [.t 65,ci 4]),om 13 66]
 (sq 3 [oo 67 (.build [.d (.str []),.nilS] []),oo 14 (.alloc 1 [.d (.str []),.nilS]),os (ks 2 14 67)]
 (.seq (sq 2 [om 68 13,oo 69 (kc .lss 68 3)]
 (.cond (.t 69) (.reg 8 [om 70 13,om 71 0,oo 73 (.iaddrA 3 2 (.t 9) (.t 70)),oo 72 (ka 16 [.t 71,ci 2]),oo 74 (.iaddrA 2 1 (.t 73) (.t 72)),oo 75 (kl 1 74),oo 76 (kf 0 14),os (ks 1 76 75)])
 (.reg 1 [oo 13 (km 1)])))
 q4_77))))
 (li 113 63)))
abbrev q4_49:IC:= (sq 11 [oo 49 (kf 0 7),oo 50 (kl 1 49),om 51 0,oo 52 (kf 0 7),oo 53 (kl 1 52),oo 54 (kn 53),ok 55 (ka 16 [.t 51,.t 54]) [49],oo 56 (ki 3 50 55),oo 57 (kL 3 56),oo 10 (.alloc 9 [.d (.str []),.d (.int .i64 0),.d (.int .i64 0)]),os (ks 3 10 57)]
 (sq 5 [oo 58 (kf 0 10),oo 59 (kl 1 58),oo 60 (.build [.d (.str []),.nilS,.nilS] [(0,1,.t 59)]),oo 11 (.alloc 3 [.d (.str []),.nilS,.nilS]),os (ks 3 11 60)]
 (sq 1 [oo 12 (.mv (.c .nilS))]
 (.seq (sq 3 [oo 61 (kf 1 10),oo 62 (kl 1 61),oo 63 (km 0)]
 (.block 4 (.loop q4_64)))
 (.seq (sq 3 [om 114 0,oo 115 (ka 16 [.t 114,ci 3]),oo 116 (km 0)]
 (.block 8 (.loop q4_117)))
 (.reg 7 [oo 163 (kf 1 7),oo 164 (kl 1 163),oo 165 (kL 3 11),oo 166 (.mkSl 3 3 true true [.d (.str []),.nilS,.nilS] 1 [(0,.t 165)]),oo 167 (.append 4 3 true 64 (.t 164) (.t 166)),oo 168 (kf 1 7),os (ks 1 168 167)]))))))
abbrev q4_41:IC:= (sq 6 [oo 41 (.build [.d (.str []),.d (.str [])] [(0,1,.c (.d (.str [97]))),(1,1,.c (.d (.str [110,105,108])))]),oo 42 (.build [.d (.str []),.d (.str [])] [(0,1,.c (.d (.str [115]))),(1,1,.c (.d (.str [117])))]),oo 43 (.build [.d (.str []),.d (.str [])] [(0,1,.c (.d (.str [99,111,110,115]))),(1,1,.c (.d (.str [112])))]),oo 44 (.build [.d (.str []),.d (.str []),.d (.str []),.d (.str []),.d (.str []),.d (.str [])] [(0,2,.t 41),(2,2,.t 42),(4,2,.t 43)]),oo 9 (.alloc 4 [.d (.str []),.d (.str []),.d (.str []),.d (.str []),.d (.str []),.d (.str [])]),os (ks 6 9 44)]
 (.seq (sq 3 [om 45 0,oo 46 (ka 15 [.t 45,ci 1,ci 8]),oo 47 (km 0)]
 (.block 2 (.loop (lh 48 47 46 2
 (.seq (.block 3 q4_49)
 (li 169 47))))))
 (sq 2 [oo 170 (kL 2 7),os (ks 2 6 170)]
 .ret)))
def i4:IFun:= ⟨171,(sq 1 [oo 6 (.alloc 0 [.nilS,.nilS])]
 (sq 1 [oo 7 (.alloc 0 [.nilS,.nilS])]
 (.seq (sq 4 [om 18 0,om 19 1,oo 20 (ka 15 [.t 18,ci 1,.t 19]),oo 21 (km 0)]
 (.block 0 (.loop (lh 22 21 20 0
 (.seq (.block 1 (sq 2 [om 23 21,om 8 23]
 (.reg 17 [oo 24 (kf 0 7),oo 25 (kl 1 24),om 26 8,oo 27 (.bin .add (ci 97) (.t 26)),oo 28 (.convI .i32 (.t 27)),oo 29 (.convS (.t 28)),oo 30 (.bin .add (.c (.d (.str [114]))) (.t 29)),om 31 0,om 33 0,om 34 2,ok 32 (ka 15 [.t 31,ci 1,ci 2]) [24],ok 35 (ka 16 [.t 33,.t 34]) [24],oo 36 (.build [.d (.str []),.d (.int .i64 0),.d (.int .i64 0)] [(0,1,.t 30),(1,1,.t 32),(2,1,.t 35)]),ok 37 (.mkSl 13 3 true true [.d (.str []),.d (.int .i64 0),.d (.int .i64 0)] 1 [(0,.t 36)]) [24],oo 38 (.append 14 3 true 32 (.t 25) (.t 37)),oo 39 (kf 0 7),os (ks 1 39 38)])))
 (li 40 21))))))
 q4_41))),[.cell 6 2 true],false,false,true,false⟩
def i5:IFun:= ⟨10,(sq 1 [oo 2 (.mv (.c .nilP))]
 (sq 8 [om 3 0,om 4 0,oo 5 (kn 4),oo 6 (.convI .u64 (.t 5)),oo 7 (.bin .add (.c (.d (.int .u64 11400714819323198485))) (.t 6)),oo 8 (.build [.nilS,.d (.int .i64 0),.d (.int .u64 0)] [(0,1,.t 3),(2,1,.t 7)]),oo 9 (kx 6 8),om 2 9]
 .ret)),[.t 2],false,false,true,false⟩
def i6:IFun:= ⟨35,(sq 2 [oo 4 (kx 0 1),oo 6 (.alloc 1 [.d (.str []),.nilS])]
 (sq 11 [oo 9 (kf 0 4),oo 10 (kl 1 9),om 11 0,oo 12 (kf 0 4),oo 13 (kl 1 12),oo 14 (kn 13),ok 15 (ka 16 [.t 11,.t 14]) [9],oo 16 (ki 3 10 15),oo 17 (kL 3 16),oo 7 (.alloc 9 [.d (.str []),.d (.int .i64 0),.d (.int .i64 0)]),os (ks 3 7 17)]
 (sq 5 [oo 18 (kf 0 7),oo 19 (kl 1 18),oo 20 (.build [.d (.str []),.nilS] [(0,1,.t 19)]),oo 8 (.alloc 3 [.d (.str []),.nilS]),os (ks 2 8 20)]
 (.seq (sq 3 [oo 21 (kf 1 7),oo 22 (kl 1 21),oo 23 (km 0)]
 (.block 0 (.loop (lh 24 23 22 0
 (.seq (.block 1 (.reg 9 [oo 25 (kf 1 8),oo 26 (kl 1 25),om 27 0,om 28 2,ok 29 (ka 18 [.t 27,.t 28]) [25],ok 30 (.mkSl 5 2 true true [.nilS,.d (.int .i64 0)] 1 [(0,.t 29)]) [25],oo 31 (.append 6 2 true 32 (.t 26) (.t 30)),oo 32 (kf 1 8),os (ks 1 32 31)]))
 (li 33 23))))))
 (sq 2 [oo 34 (kL 2 8),os (ks 2 6 34)]
 .ret))))),[.cell 6 2 true],false,false,true,false⟩
abbrev y8n:IC:= (.reg 9 [oo 80 (kf 0 7),oo 81 (kl 1 80),om 82 6,om 83 8,oo 84 (ki 1 82 83),oo 85 (kl 1 84),oo 86 (kL 2 9),oo 87 (ki 2 81 85),os (ks 2 87 86)])
abbrev q7_52:IC:= (.seq (sq 10 [oo 52 (kf 0 3),oo 53 (kl 1 52),om 54 8,om 55 5,oo 56 (kb .rem 54 55),oo 57 (ki 2 53 56),oo 58 (kf 1 57),oo 59 (kl 1 58),oo 60 (kn 59),oo 61 (km 0)]
 (.block 2 (.loop (lh 62 61 60 2
 (.seq (.block 3 (sq 3 [oo 63 (ki 1 59 61),oo 64 (kl 1 63),om 11 64]
 (.reg 15 [oo 65 (kf 1 9),oo 66 (kl 1 65),om 67 6,om 68 11,om 69 5,om 70 0,ok 71 (ka 16 [.t 70,ci 2]) [65],oo 72 (kb .mul 69 71),oo 73 (kb .add 68 72),oo 74 (ki 1 67 73),oo 75 (kl 1 74),ok 76 (.mkSl 11 1 false true [.d (.int .i64 0)] 1 [(0,.t 75)]) [65],oo 77 (.append 12 1 false 8 (.t 66) (.t 76)),oo 78 (kf 1 9),os (ks 1 78 77)])))
 (li 79 61))))))
 y8n)
abbrev q7_43:IC:= (sq 11 [oo 43 (kf 0 3),oo 44 (kl 1 43),om 45 8,om 46 5,oo 47 (kb .rem 45 46),oo 48 (ki 2 44 47),oo 49 (kf 0 48),oo 50 (kl 1 49),oo 51 (.build [.d (.str []),.nilS] [(0,1,.t 50)]),oo 9 (.alloc 9 [.d (.str []),.nilS]),os (ks 2 9 51)]
 q7_52)
abbrev q7_38:IC:= (.seq (sq 3 [om 38 5,oo 39 (.bin .mul (ci 2) (.t 38)),oo 40 (km 0)]
 (.block 0 (.loop (lh 41 40 39 0
 (.seq (.block 1 (sq 2 [om 42 40,om 8 42]
 q7_43))
 (li 88 40))))))
 (sq 2 [oo 89 (kL 2 7),os (ks 2 4 89)]
 .ret))
def i7:IFun:= ⟨90,(sq 2 [oo 3 (kx 0 1),oo 4 (.alloc 1 [.nilS,.d (.int .i64 0)])]
 (sq 4 [oo 12 (kf 0 3),oo 13 (kl 1 12),oo 14 (kn 13),om 5 14]
 (.seq (sq 3 [om 15 5,oo 16 (.bin .mul (ci 2) (.t 15)),oo 17 (kc .gtr 16 60)]
 (.cond (.t 17) (sq 3 [oo 18 (kL 2 3),oo 19 (ka 19 [.t 18]),os (ks 2 4 19)]
 .ret)
 .skip))
 (sq 5 [om 20 0,om 21 5,oo 22 (.bin .mul (ci 2) (.t 21)),oo 23 (ka 20 [.t 20,.t 22]),om 6 23]
 (sq 16 [om 24 5,oo 25 (.bin .mul (ci 2) (.t 24)),om 27 6,oo 28 (kf 1 3),oo 29 (kl 1 28),om 30 5,om 31 0,ok 32 (ka 16 [.t 31,ci 2]) [28],oo 33 (kb .mul 30 32),oo 34 (kb .add 29 33),oo 35 (ki 1 27 34),oo 36 (kl 1 35),oo 26 (.mkslice 12 2 true 40 [.d (.str []),.nilS] (.t 25) (.t 25)),oo 37 (.build [.nilS,.d (.int .i64 0)] [(0,1,.t 26),(1,1,.t 36)]),oo 7 (.alloc 14 [.nilS,.d (.int .i64 0)]),os (ks 2 7 37)]
 q7_38))))),[.cell 4 2 true],false,false,true,false⟩
def i8:IFun:= ⟨11,(sq 4 [oo 2 (kx 0 0),oo 3 (kx 1 1),oo 4 kF,oo 5 (km 0)]
 (sq 7 [oo 6 (kL 2 2),oo 7 (kL 2 3),oo 8 (ka 21 [.t 6,.t 7,.c (.fn 22 [] [])]),oo 9 (ke 0 8),oo 10 (ke 1 8),om 4 9,om 5 10]
 .ret)),[.t 4,.t 5],true,false,false,false⟩
def i9:IFun:= ⟨11,(sq 4 [oo 2 (kx 0 0),oo 3 (kx 1 1),oo 4 (.mv (.c .nilS)),oo 5 (km 0)]
 (sq 7 [oo 6 (kL 2 2),oo 7 (kL 2 3),oo 8 (ka 24 [.t 6,.t 7,.c (.fn 25 [] [])]),oo 9 (ke 0 8),oo 10 (ke 1 8),om 4 9,om 5 10]
 .ret)),[.t 4,.t 5],true,false,true,false⟩
def i10:IFun:= ⟨17,(sq 3 [oo 2 (kx 0 0),oo 3 (kx 1 1),oo 4 kF]
 (sq 13 [oo 5 (kf 0 2),oo 6 (kl 1 5),oo 7 (kf 0 3),oo 8 (kl 1 7),oo 9 (kb .eql 6 8),om 10 9,ot 11 (kf 1 2) 10,ot 12 (kl 1 11) 10,ot 13 (kf 1 3) 10,ot 14 (kl 1 13) 10,ot 15 (ka 26 [.t 12,.t 14,.c (.fn 27 [] [])]) 10,oo 16 (.pick (.t 10) (.t 15) cf),om 4 16]
 .ret)),[.t 4],true,false,true,false⟩
def i11:IFun:= ⟨8,(sq 1 [oo 4 kF]
 (sq 4 [om 5 0,om 6 1,oo 7 (ka 29 [.t 5,.t 6,.c (.fn 30 [] [])]),om 4 7]
 .ret)),[.t 4],true,false,false,false⟩
def i12:IFun:= ⟨59,(sq 4 [oo 2 (kx 0 0),oo 3 (kx 1 1),oo 4 (.alloc 2 [.nilS,.nilS]),oo 5 (km 0)]
 (.seq (sq 5 [oo 10 (kL 2 2),oo 11 (kL 2 3),oo 12 (.mkSl 2 2 true true [.nilS,.nilS] 2 [(0,.t 10),(1,.t 11)]),oo 13 (kn 12),oo 14 (km 0)]
 (.block 0 (.loop (lh 15 14 13 0
 (.seq (.block 1 (sq 4 [oo 16 (ki 2 12 14),oo 17 (kL 2 16),oo 7 (.alloc 2 [.nilS,.nilS]),os (ks 2 7 17)]
 (sq 3 [oo 18 (kL 2 7),oo 19 (ka 32 [.t 18]),om 8 19]
 (sq 2 [om 20 8,oo 21 (kc .neq 20 0)]
 (.cond (.t 21) (sq 4 [oo 22 (.build [.nilS,.nilS] []),om 23 8,os (ks 2 4 22),om 5 23]
 .ret)
 .skip)))))
 (li 24 14))))))
 (sq 5 [oo 25 (kL 2 2),oo 26 (.build [.nilS,.nilS] [(0,2,.t 25)]),oo 27 (.mkf 33 [.t 26] []),oo 9 (.alloc 3 [.nilF]),os (ks 1 9 27)]
 (.seq (.block 2 (sq 6 [oo 29 (kf 0 3),oo 30 (kl 1 29),oo 31 (.mkf 35 [] [.t 9]),oo 32 (ka 34 [.t 30,.t 31]),oo 33 (.un .not (.t 32)),om 28 33]
 (.cond (.t 28) (sq 3 [oo 34 (.build [.nilS,.nilS] []),os (ks 2 4 34),oo 5 (km 5)]
 .ret)
 (sq 19 [oo 36 (kf 0 2),oo 37 (kl 1 36),oo 38 (kn 37),oo 39 (kf 0 3),oo 40 (kl 1 39),oo 41 (kn 40),oo 42 (kb .add 38 41),oo 43 (kc .gtr 42 8),om 44 43,og 45 (kf 1 2) 44,og 46 (kl 1 45) 44,og 47 (kn 46) 44,og 48 (kf 1 3) 44,og 49 (kl 1 48) 44,og 50 (kn 49) 44,og 51 (kb .add 47 50) 44,og 52 (kc .gtr 51 24) 44,oo 53 (kp 44 52),om 35 53]
 (.cond (.t 35) (sq 3 [oo 54 (.build [.nilS,.nilS] []),os (ks 2 4 54),oo 5 (km 2)]
 .ret)
 .skip)))))
 (sq 6 [oo 55 (kL 2 2),oo 56 (kL 2 3),oo 57 (.mkSl 2 2 true true [.nilS,.nilS] 2 [(0,.t 55),(1,.t 56)]),oo 58 (ka 36 [.t 57]),os (ks 2 4 58),oo 5 (km 0)]
 .ret))))),[.cell 4 2 true,.t 5],true,false,true,false⟩
def i13:IFun:= ⟨18,(sq 1 [oo 2 (.alloc 0 [.nilS,.nilS])]
 (sq 16 [om 3 0,oo 4 (.build [.d (.str []),.d (.int .i64 0),.d (.int .i64 0)] [(0,1,.c (.d (.str [102,105,110]))),(1,1,(ci 1)),(2,1,.t 3)]),oo 5 (.mkSl 2 3 true false [.d (.str []),.d (.int .i64 0),.d (.int .i64 0)] 1 [(0,.t 4)]),oo 6 (.build [.d (.str []),.nilS] [(0,1,.c (.d (.str [110,105,108])))]),oo 7 (.mkSl 4 2 true false [.d (.str []),.nilS] 1 [(0,.t 6)]),oo 8 (.build [.d (.str []),.nilS,.nilS] [(0,1,.c (.d (.str [102,105,110]))),(1,1,.t 7)]),oo 9 (.mkSl 6 1 false false [.d (.str [])] 2 [(0,.c (.d (.str [104]))),(1,.c (.d (.str [116])))]),oo 10 (.build [.d (.str []),.nilS] [(0,1,.c (.d (.str [99,111,110,115]))),(1,1,.t 9)]),oo 11 (.mkSl 8 2 true false [.d (.str []),.nilS] 1 [(0,.t 10)]),oo 12 (.mkSl 9 1 false false [.d (.str [])] 1 [(0,.c (.d (.str [116])))]),oo 13 (.build [.d (.str []),.nilS] [(0,1,.c (.d (.str [102,105,110]))),(1,1,.t 12)]),oo 14 (.mkSl 11 2 true false [.d (.str []),.nilS] 1 [(0,.t 13)]),oo 15 (.build [.d (.str []),.nilS,.nilS] [(0,1,.c (.d (.str [102,105,110]))),(1,1,.t 11),(2,1,.t 14)]),oo 16 (.mkSl 13 3 true false [.d (.str []),.nilS,.nilS] 2 [(0,.t 8),(1,.t 15)]),oo 17 (.build [.nilS,.nilS] [(0,1,.t 5),(1,1,.t 16)]),os (ks 2 2 17)]
 .ret)),[.cell 2 2 true],true,false,false,false⟩
def i14:IFun:= ⟨120,(sq 1 [oo 0 kF]
 (sq 5 [oo 17 (ka 37 [cf]),oo 18 (.mkSl 1 2 true false [.nilS,.d (.int .i64 0)] 1 [(0,.t 17)]),oo 19 (.build [.d (.str []),.nilS] [(0,1,.c (.d (.str [102,105,110]))),(1,1,.t 18)]),oo 1 (.alloc 3 [.d (.str []),.nilS]),os (ks 2 1 19)]
 (sq 8 [oo 22 (kL 2 1),ok 21 (ka 13 [ci 0]) [1],oo 23 (ka 8 [.t 21,.t 22]),om 20 23,oo 24 (ke 0 20),oo 25 (ke 1 20),om 2 24,om 3 25]
 (sq 8 [oo 28 (kL 2 1),ok 27 (ka 13 [ci 1]) [1],oo 29 (ka 8 [.t 27,.t 28]),om 26 29,oo 30 (ke 0 26),oo 31 (ke 1 26),om 4 30,om 5 31]
 (sq 9 [oo 33 (.mkSl 0 1 false false [.d (.str [])] 2 [(0,.c (.d (.str [99,111,110,115]))),(1,.c (.d (.str [97])))]),oo 34 (.mkSl 1 1 false false [.d (.int .i64 0)] 2 [(0,(ci 2)),(1,(ci 0))]),oo 35 (ka 38 [.t 33,.t 34]),om 32 35,oo 36 (ke 0 32),oo 37 (ke 1 32),oo 6 (.alloc 6 [.nilS,.nilS]),os (ks 2 6 36),om 7 37]
 (sq 6 [oo 38 (ka 37 [cf]),oo 39 (ka 37 [ct]),oo 40 (.mkSl 2 2 true false [.nilS,.d (.int .i64 0)] 2 [(0,.t 38),(1,.t 39)]),oo 41 (.build [.d (.str []),.nilS] [(0,1,.c (.d (.str [115,97,109,101]))),(1,1,.t 40)]),oo 8 (.alloc 4 [.d (.str []),.nilS]),os (ks 2 8 41)]
 (sq 8 [oo 43 (kL 2 6),oo 44 (kL 2 8),oo 45 (ka 8 [.t 43,.t 44]),om 42 45,oo 46 (ke 0 42),oo 47 (ke 1 42),om 9 46,om 10 47]
 (sq 8 [oo 49 (kL 2 6),oo 50 (kL 2 8),oo 51 (ka 9 [.t 49,.t 50]),om 48 51,oo 52 (ke 0 48),oo 53 (ke 1 48),om 11 52,om 12 53]
 (sq 9 [oo 56 (kL 2 1),ok 55 (ka 13 [ci 1]) [1],oo 57 (ka 39 [.t 55,.t 56]),om 54 57,oo 58 (ke 0 54),oo 59 (ke 1 54),oo 13 (.alloc 6 [.nilS,.nilS]),os (ks 2 13 58),om 14 59]
 (sq 9 [oo 62 (kL 2 1),ok 61 (ka 13 [ci 0]) [1],oo 63 (ka 40 [.t 61,.t 62]),om 60 63,oo 64 (ke 0 60),oo 65 (ke 1 60),oo 15 (.alloc 6 [.nilS,.nilS]),os (ks 2 15 64),om 16 65]
 (sq 55 [om 66 3,oo 67 (kc .eql 66 0),om 68 67,ot 69 (.mv (.t 5)) 68,ot 70 (kc .eql 69 0) 68,oo 71 (.pick (.t 68) (.t 70) cf),om 72 71,ot 73 (.mv (.t 7)) 72,ot 74 (kc .eql 73 0) 72,oo 75 (.pick (.t 72) (.t 74) cf),om 76 75,ot 77 (.mv (.t 10)) 76,ot 78 (kc .eql 77 0) 76,oo 79 (.pick (.t 76) (.t 78) cf),om 80 79,ot 81 (.mv (.t 12)) 80,ot 82 (kc .eql 81 0) 80,oo 83 (.pick (.t 80) (.t 82) cf),om 84 83,ot 85 (.mv (.t 14)) 84,ot 86 (kc .eql 85 0) 84,oo 87 (.pick (.t 84) (.t 86) cf),om 88 87,ot 89 (.mv (.t 16)) 88,ot 90 (kc .eql 89 0) 88,oo 91 (.pick (.t 88) (.t 90) cf),om 92 91,ot 93 (.mv (.t 2)) 92,ot 94 (.un .not (.t 93)) 92,oo 95 (.pick (.t 92) (.t 94) cf),om 96 95,ot 97 (.mv (.t 4)) 96,oo 98 (.pick (.t 96) (.t 97) cf),om 99 98,ot 100 (.mv (.t 9)) 99,oo 101 (.pick (.t 99) (.t 100) cf),om 102 101,ot 103 (.mv (.t 11)) 102,ot 104 (kn 103) 102,ot 105 (kc .eql 104 2) 102,oo 106 (.pick (.t 102) (.t 105) cf),om 107 106,ot 108 (kf 1 13) 107,ot 109 (kl 1 108) 107,ot 110 (.mkSl 44 1 false false [.d (.int .i64 0)] 1 [(0,(ci 1))]) 107,ot 111 (ka 41 [.t 109,.t 110]) 107,oo 112 (.pick (.t 107) (.t 111) cf),om 113 112,ot 114 (kf 1 15) 113,ot 115 (kl 1 114) 113,ot 116 (.mkSl 50 1 false false [.d (.int .i64 0)] 2 [(0,(ci (-1))),(1,(ci 0))]) 113,ot 117 (.mkSl 51 1 false false [.nilS] 1 [(0,.t 116)]) 113,ot 118 (ka 42 [.t 115,.t 117]) 113,oo 119 (.pick (.t 113) (.t 118) cf),om 0 119]
 .ret))))))))))),[.t 0],true,false,false,false⟩
def i15:IFun:= ⟨15,(sq 1 [oo 6 (km 0)]
 (sq 9 [om 7 1,om 8 0,om 9 2,om 10 1,oo 11 (kb .sub 9 10),oo 12 (kc .add 11 1),oo 13 (ka 16 [.t 8,.t 12]),oo 14 (kb .add 7 13),om 6 14]
 .ret)),[.t 6],false,false,true,false⟩
def i16:IFun:= ⟨12,(sq 1 [oo 4 (km 0)]
 (sq 8 [om 5 0,oo 6 (ka 43 [.t 5]),om 7 1,oo 8 (.mm true [ci 1,.t 7]),oo 9 (.convI .u64 (.t 8)),oo 10 (kb .rem 6 9),oo 11 (.convI .i64 (.t 10)),om 4 11]
 .ret)),[.t 4],false,false,true,false⟩
def i17:IFun:= ⟨9,(sq 1 [oo 4 kF]
 (sq 5 [om 5 0,om 6 1,oo 7 (ka 16 [.t 5,.t 6]),oo 8 (kc .eql 7 0),om 4 8]
 .ret)),[.t 4],false,false,true,false⟩
def i18:IFun:= ⟨52,(sq 1 [oo 4 (.alloc 0 [.nilS,.d (.int .i64 0)])]
 (sq 5 [om 10 0,om 11 1,oo 12 (.mm false [.t 11,ci 60]),oo 13 (ka 15 [.t 10,ci 1,.t 12]),om 5 13]
 (sq 6 [om 14 0,om 15 5,oo 16 (ka 16 [.t 14,.t 15]),oo 17 (.build [.nilS,.d (.int .i64 0)] [(1,1,.t 16)]),oo 6 (.alloc 4 [.nilS,.d (.int .i64 0)]),os (ks 2 6 17)]
 (sq 3 [om 18 0,oo 19 (ka 15 [.t 18,ci 1,ci 3]),om 7 19]
 (.seq (sq 2 [om 20 5,oo 21 (km 0)]
 (.block 0 (.loop (lh 22 21 20 0
 (.seq (.block 1 (sq 3 [om 23 0,oo 24 (ka 15 [.t 23,ci 0,ci 2]),om 8 24]
 (sq 9 [om 25 8,oo 26 (ka 44 [.t 25]),om 27 0,om 28 7,oo 29 (ka 16 [.t 27,.t 28]),oo 30 (.indexA 3 1 false (.t 26) (.t 29)),oo 31 (.build [.d (.str []),.nilS] [(0,1,.t 30)]),oo 9 (.alloc 7 [.d (.str []),.nilS]),os (ks 2 9 31)]
 (.seq (sq 2 [om 32 8,oo 33 (km 0)]
 (.block 2 (.loop (lh 34 33 32 2
 (.seq (.block 3 (.reg 9 [oo 35 (kf 1 9),oo 36 (kl 1 35),om 37 0,om 38 5,ok 39 (ka 16 [.t 37,.t 38]) [35],ok 40 (.mkSl 5 1 false true [.d (.int .i64 0)] 1 [(0,.t 39)]) [35],oo 41 (.append 6 1 false 8 (.t 36) (.t 40)),oo 42 (kf 1 9),os (ks 1 42 41)]))
 (li 43 33))))))
 (.reg 7 [oo 44 (kf 0 6),oo 45 (kl 1 44),oo 46 (kL 2 9),oo 47 (.mkSl 3 2 true true [.d (.str []),.nilS] 1 [(0,.t 46)]),oo 48 (.append 4 2 true 40 (.t 45) (.t 47)),oo 49 (kf 0 6),os (ks 1 49 48)])))))
 (li 50 21))))))
 (sq 2 [oo 51 (kL 2 6),os (ks 2 4 51)]
 .ret)))))),[.cell 4 2 true],false,false,true,false⟩
def i20:IFun:= ⟨33,(sq 1 [oo 4 (.mv (.c .nilS))]
 (sq 4 [om 8 1,oo 9 (.mm true [ci 0,.t 8]),oo 10 (.mkslice 2 1 false 8 [.d (.int .i64 0)] (.t 9) (.t 9)),om 5 10]
 (.seq (sq 3 [om 11 5,oo 12 (kn 11),oo 13 (km 0)]
 (.block 0 (.loop (lh 14 13 12 0
 (.seq (.block 1 (sq 2 [om 15 13,om 6 15]
 (sq 5 [om 16 0,om 17 6,oo 18 (kc .add 17 1),oo 19 (ka 16 [.t 16,.t 18]),om 7 19]
 (.reg 13 [om 20 5,om 21 6,om 22 5,om 23 7,om 24 5,om 25 7,oo 26 (ki 1 24 25),oo 27 (kl 1 26),om 28 6,oo 29 (ki 1 20 21),os (ks 1 29 27),oo 30 (ki 1 22 23),os (ks 1 30 28)]))))
 (li 31 13))))))
 (sq 2 [om 32 5,om 4 32]
 .ret)))),[.t 4],false,false,true,false⟩
def i21:IFun:= ⟨26,(sq 4 [oo 3 (kx 0 0),oo 4 (kx 1 1),oo 6 kF,oo 7 (km 0)]
 (sq 1 [oo 8 kF]
 (sq 8 [oo 12 (kL 2 3),oo 13 (kL 2 4),oo 14 (ka 46 [.t 12,.t 13]),om 11 14,oo 15 (ke 0 11),oo 16 (ke 1 11),om 9 15,om 10 16]
 (.seq (sq 2 [om 17 10,oo 18 (kc .neq 17 0)]
 (.cond (.t 18) (sq 4 [om 19 8,om 20 10,om 6 19,om 7 20]
 .ret)
 .skip))
 (sq 7 [om 21 2,om 22 9,oo 23 (.call (.o (.t 21)) [.t 22]),oo 24 (ke 0 23),oo 25 (ke 1 23),om 6 24,om 7 25]
 .ret))))),[.t 6,.t 7],false,false,true,false⟩
def i22:IFun:= ⟨8,(sq 2 [oo 2 kF,oo 3 (km 0)]
 (sq 6 [om 4 0,oo 5 (ka 23 [.t 4]),oo 6 (.iaddrS 1 (.t 5) (ci 0)),oo 7 (kl 1 6),om 2 7,oo 3 (km 0)]
 .ret)),[.t 2,.t 3],false,false,true,false⟩
abbrev y5z:IC:= (sq 10 [om 66 8,om 67 0,om 68 3,om 69 8,oo 70 (ka 48 [.t 68,.t 69]),oo 71 (ka 50 [.t 67,.t 70]),oo 72 (.indexA 2 1 false (.t 71) (ci 0)),oo 73 (.mkSl 7 1 false true [.nilS] 1 [(0,.t 72)]),oo 74 (ka 49 [.t 66,.t 73]),om 2 74]
 .ret)
abbrev q23_53:IC:= (sq 6 [om 53 0,om 54 3,oo 55 (.iaddrA 2 1 (.t 4) (ci 1)),oo 56 (kl 1 55),oo 57 (ka 47 [.t 53,.t 54,.t 56,ci 1]),om 7 57]
 (sq 4 [om 58 3,om 59 7,oo 60 (ka 48 [.t 58,.t 59]),om 3 60]
 (sq 6 [om 61 0,om 62 3,oo 63 (.iaddrA 2 1 (.t 4) (ci 0)),oo 64 (kl 1 63),oo 65 (ka 47 [.t 61,.t 62,.t 64,ci 0]),om 8 65]
 y5z)))
def i23:IFun:= ⟨75,(sq 1 [oo 2 (.mv (.c .nilS))]
 (sq 22 [om 9 0,oo 10 (.nilck (.t 9)),oo 11 (kf 3 10),oo 12 (kl 1 11),oo 13 (kn 12),om 15 0,oo 16 (.nilck (.t 15)),oo 17 (kf 3 16),oo 18 (kl 1 17),oo 19 (kn 18),om 21 0,oo 22 (.nilck (.t 21)),oo 23 (kf 3 22),oo 24 (kl 1 23),oo 25 (kn 24),oo 14 (.mkslice 15 1 false 1 [.d (.bool false)] (.t 13) (.t 13)),oo 20 (.mkslice 16 1 false 1 [.d (.bool false)] (.t 19) (.t 19)),oo 26 (.mkslice 17 1 false 1 [.d (.bool false)] (.t 25) (.t 25)),oo 27 (.build [.nilS,.nilS] [(0,1,.t 20),(1,1,.t 26)]),oo 4 (.alloc 19 [.nilS,.nilS]),om 3 14,os (ks 2 4 27)]
 (.seq (sq 6 [om 28 0,oo 29 (.nilck (.t 28)),oo 30 (kf 3 29),oo 31 (kl 1 30),oo 32 (kn 31),oo 33 (km 0)]
 (.block 0 (.loop (lh 34 33 32 0
 (.seq (.block 1 (sq 6 [om 35 33,oo 36 (ki 4 31 33),oo 37 (kL 4 36),oo 6 (.alloc 3 [.d (.int .i64 0),.d (.int .i64 0),.nilS,.d (.int .i64 0)]),om 5 35,os (ks 4 6 37)]
 (sq 4 [om 38 3,om 39 5,oo 40 (ki 1 38 39),os (.store 1 (.t 40) ct)]
 (sq 4 [oo 41 (kf 2 6),oo 42 (kl 1 41),oo 43 (kn 42),oo 44 (kc .eql 43 0)]
 (.cond (.t 44) (.reg 8 [oo 45 (kf 0 6),oo 46 (kl 1 45),oo 47 (.bin .sub (ci 1) (.t 46)),oo 48 (.iaddrA 2 1 (.t 4) (.t 47)),oo 49 (kl 1 48),om 50 5,oo 51 (ki 1 49 50),os (.store 1 (.t 51) ct)])
 .skip)))))
 (li 52 33))))))
 q23_53))),[.t 2],false,false,true,false⟩
def i24:IFun:= ⟨26,(sq 4 [oo 3 (kx 0 0),oo 4 (kx 1 1),oo 6 (.mv (.c .nilS)),oo 7 (km 0)]
 (sq 1 [oo 8 (.mv (.c .nilS))]
 (sq 8 [oo 12 (kL 2 3),oo 13 (kL 2 4),oo 14 (ka 46 [.t 12,.t 13]),om 11 14,oo 15 (ke 0 11),oo 16 (ke 1 11),om 9 15,om 10 16]
 (.seq (sq 2 [om 17 10,oo 18 (kc .neq 17 0)]
 (.cond (.t 18) (sq 4 [om 19 8,om 20 10,om 6 19,om 7 20]
 .ret)
 .skip))
 (sq 7 [om 21 2,om 22 9,oo 23 (.call (.o (.t 21)) [.t 22]),oo 24 (ke 0 23),oo 25 (ke 1 23),om 6 24,om 7 25]
 .ret))))),[.t 6,.t 7],false,false,true,false⟩
def i25:IFun:= ⟨8,(sq 2 [oo 2 (.mv (.c .nilS)),oo 3 (km 0)]
 (sq 6 [om 4 0,oo 5 (.nilck (.t 4)),oo 6 (kf 2 5),oo 7 (kl 1 6),om 2 7,oo 3 (km 0)]
 .ret)),[.t 2,.t 3],false,false,true,false⟩
def i26:IFun:= ⟨32,(sq 1 [oo 6 kF]
 (.seq (sq 5 [om 10 0,oo 11 (kn 10),om 12 1,oo 13 (kn 12),oo 14 (kb .neq 11 13)]
 (.cond (.t 14) (sq 1 [oo 6 kF]
 .ret)
 .skip))
 (.seq (sq 3 [om 15 0,oo 16 (kn 15),oo 17 (km 0)]
 (.block 0 (.loop (lh 18 17 16 0
 (.seq (.block 1 (sq 6 [om 19 17,oo 20 (ki 2 15 17),oo 21 (kL 2 20),oo 8 (.alloc 3 [.nilS,.d (.int .i64 0)]),om 7 19,os (ks 2 8 21)]
 (sq 6 [om 22 1,om 23 7,oo 24 (ki 2 22 23),oo 25 (kL 2 24),oo 9 (.alloc 4 [.nilS,.d (.int .i64 0)]),os (ks 2 9 25)]
 (sq 5 [om 26 2,oo 27 (kL 2 8),oo 28 (kL 2 9),oo 29 (.call (.o (.t 26)) [.t 27,.t 28]),oo 30 (.un .not (.t 29))]
 (.cond (.t 30) (sq 1 [oo 6 kF]
 .ret)
 .skip)))))
 (li 31 17))))))
 (sq 1 [oo 6 kT]
 .ret)))),[.t 6],false,true,false,false⟩
def i27:IFun:= ⟨18,(sq 3 [oo 2 (kx 0 0),oo 3 (kx 1 1),oo 4 kF]
 (sq 8 [oo 8 (kL 2 2),oo 9 (kL 2 3),oo 10 (ka 28 [.t 8,.t 9]),om 7 10,oo 11 (ke 0 7),oo 12 (ke 1 7),om 5 11,om 6 12]
 (sq 6 [om 13 5,om 14 13,ot 15 (.mv (.t 6)) 14,ot 16 (kc .eql 15 0) 14,oo 17 (.pick (.t 14) (.t 16) cf),om 4 17]
 .ret))),[.t 4],true,false,true,false⟩
def i28:IFun:= ⟨28,(sq 4 [oo 2 (kx 0 0),oo 3 (kx 1 1),oo 4 kF,oo 5 (km 0)]
 (sq 8 [oo 12 (kL 2 2),oo 13 (kL 2 3),oo 14 (ka 51 [.t 12,.t 13]),om 11 14,oo 15 (ke 0 11),oo 16 (ke 1 11),om 6 15,om 7 16]
 (.seq (sq 2 [om 17 7,oo 18 (kc .neq 17 0)]
 (.cond (.t 18) (sq 3 [om 19 7,oo 4 kF,om 5 19]
 .ret)
 .skip))
 (sq 10 [om 21 6,oo 22 (ka 52 [.t 21]),om 20 22,oo 23 (ke 0 20),oo 24 (ke 1 20),oo 25 (ke 2 20),oo 9 (.alloc 6 [.d (.int .i64 0),.d (.int .i64 0)]),om 8 23,os (ks 2 9 24),om 10 25]
 (sq 4 [om 26 10,oo 27 (.un .not (.t 26)),om 4 27,oo 5 (km 0)]
 .ret))))),[.t 4,.t 5],true,false,true,false⟩
def i29:IFun:= ⟨32,(sq 1 [oo 6 kF]
 (.seq (sq 5 [om 10 0,oo 11 (kn 10),om 12 1,oo 13 (kn 12),oo 14 (kb .neq 11 13)]
 (.cond (.t 14) (sq 1 [oo 6 kF]
 .ret)
 .skip))
 (.seq (sq 3 [om 15 0,oo 16 (kn 15),oo 17 (km 0)]
 (.block 0 (.loop (lh 18 17 16 0
 (.seq (.block 1 (sq 6 [om 19 17,oo 20 (ki 2 15 17),oo 21 (kL 2 20),oo 8 (.alloc 3 [.d (.str []),.nilS]),om 7 19,os (ks 2 8 21)]
 (sq 6 [om 22 1,om 23 7,oo 24 (ki 2 22 23),oo 25 (kL 2 24),oo 9 (.alloc 4 [.d (.str []),.nilS]),os (ks 2 9 25)]
 (sq 5 [om 26 2,oo 27 (kL 2 8),oo 28 (kL 2 9),oo 29 (.call (.o (.t 26)) [.t 27,.t 28]),oo 30 (.un .not (.t 29))]
 (.cond (.t 30) (sq 1 [oo 6 kF]
 .ret)
 .skip)))))
 (li 31 17))))))
 (sq 1 [oo 6 kT]
 .ret)))),[.t 6],false,true,false,false⟩
def i30:IFun:= ⟨17,(sq 3 [oo 2 (kx 0 0),oo 3 (kx 1 1),oo 4 kF]
 (sq 13 [oo 5 (kf 0 2),oo 6 (kl 1 5),oo 7 (kf 0 3),oo 8 (kl 1 7),oo 9 (kb .eql 6 8),om 10 9,ot 11 (kf 1 2) 10,ot 12 (kl 1 11) 10,ot 13 (kf 1 3) 10,ot 14 (kl 1 13) 10,ot 15 (ka 26 [.t 12,.t 14,.c (.fn 31 [] [])]) 10,oo 16 (.pick (.t 10) (.t 15) cf),om 4 16]
 .ret)),[.t 4],true,false,false,false⟩
def i31:IFun:= ⟨17,(sq 3 [oo 2 (kx 0 0),oo 3 (kx 1 1),oo 4 kF]
 (sq 13 [oo 5 (kf 1 2),oo 6 (kl 1 5),oo 7 (kf 1 3),oo 8 (kl 1 7),oo 9 (kb .eql 6 8),om 10 9,ot 11 (kf 0 2) 10,ot 12 (kl 1 11) 10,ot 13 (kf 0 3) 10,ot 14 (kl 1 13) 10,ot 15 (ka 53 [.t 12,.t 14,.c (.fn 54 [] [])]) 10,oo 16 (.pick (.t 10) (.t 15) cf),om 4 16]
 .ret)),[.t 4],true,false,false,false⟩
def i32:IFun:= ⟨53,(sq 2 [oo 1 (kx 0 0),oo 2 (km 0)]
 (.seq (sq 16 [oo 8 (kf 0 1),oo 9 (kl 1 8),oo 10 (kn 9),oo 11 (kc .lss 10 1),om 12 11,og 13 (kf 0 1) 12,og 14 (kl 1 13) 12,og 15 (kn 14) 12,og 16 (kc .gtr 15 8) 12,oo 17 (kp 12 16),om 18 17,og 19 (kf 1 1) 18,og 20 (kl 1 19) 18,og 21 (kn 20) 18,og 22 (kc .gtr 21 24) 18,oo 23 (kp 18 22)]
 (.cond (.t 23) (sq 1 [oo 2 (km 2)]
 .ret)
 .skip))
 (.seq (sq 4 [oo 24 (kf 0 1),oo 25 (kl 1 24),oo 26 (kn 25),oo 27 (km 0)]
 (.block 0 (.loop (lh 28 27 26 0
 (.seq (.block 1 (sq 2 [om 29 27,om 3 29]
 (sq 5 [oo 30 (kL 2 1),oo 31 (.build [.nilS,.nilS] [(0,2,.t 30)]),om 32 3,oo 33 (ka 55 [.t 31,.t 32]),om 4 33]
 (sq 2 [om 34 4,oo 35 (kc .neq 34 0)]
 (.cond (.t 35) (sq 2 [om 36 4,om 2 36]
 .ret)
 .skip)))))
 (li 37 27))))))
 (.seq (sq 4 [oo 38 (kf 1 1),oo 39 (kl 1 38),oo 40 (kn 39),oo 41 (km 0)]
 (.block 2 (.loop (lh 42 41 40 2
 (.seq (.block 3 (sq 4 [oo 43 (ki 3 39 41),oo 44 (kL 3 43),oo 6 (.alloc 2 [.d (.str []),.nilS,.nilS]),os (ks 3 6 44)]
 (sq 5 [oo 45 (kL 2 1),oo 46 (.build [.nilS,.nilS] [(0,2,.t 45)]),oo 47 (kL 3 6),oo 48 (ka 56 [.t 46,.t 47]),om 7 48]
 (sq 2 [om 49 7,oo 50 (kc .neq 49 0)]
 (.cond (.t 50) (sq 2 [om 51 7,om 2 51]
 .ret)
 .skip)))))
 (li 52 41))))))
 (sq 1 [oo 2 (km 0)]
 .ret))))),[.t 2],true,false,false,false⟩
def i33:IFun:= ⟨10,(sq 3 [oo 2 (kx 0 0),oo 3 (kx 1 1),oo 4 (km 0)]
 (sq 6 [oo 5 (kf 0 2),oo 6 (kf 0 5),oo 7 (kl 1 6),oo 8 (.mkf 58 [] [.t 3]),oo 9 (ka 57 [.t 7,.t 8]),om 4 9]
 .ret)),[.t 4],true,false,false,false⟩
def i34:IFun:= ⟨9,(sq 2 [oo 3 (kx 0 1),oo 4 kF]
 (sq 5 [om 5 0,oo 6 (.mkf 60 [] [.t 3]),oo 7 (ka 59 [.t 5,.t 6]),oo 8 (.un .not (.t 7)),om 4 8]
 .ret)),[.t 4],false,true,false,false⟩
def i35:IFun:= ⟨9,(sq 2 [oo 2 (kx 0 0),oo 3 kF]
 (sq 6 [oo 4 (kl 1 1),oo 5 (kf 0 2),oo 6 (kl 1 5),oo 7 (.call (.o (.t 4)) [.t 6]),oo 8 (kc .lss 7 0),om 3 8]
 .ret)),[.t 3],false,true,false,false⟩
def i36:IFun:= ⟨90,(sq 1 [oo 2 (.alloc 0 [.nilS,.nilS])]
 (sq 1 [oo 3 (.alloc 0 [.nilS,.nilS])]
 (.seq (sq 3 [om 14 0,oo 15 (kn 14),oo 16 (km 0)]
 (.block 0 (.loop (lh 17 16 15 0
 (.seq (.block 1 (sq 4 [oo 18 (ki 2 14 16),oo 19 (kL 2 18),oo 5 (.alloc 2 [.nilS,.nilS]),os (ks 2 5 19)]
 (sq 5 [oo 20 (kf 0 5),oo 21 (kl 1 20),oo 22 (kn 21),oo 23 (.mkslice 3 3 true 32 [.d (.str []),.d (.int .i64 0),.d (.int .i64 0)] (.t 22) (.t 22)),om 6 23]
 (sq 4 [om 24 6,oo 25 (kf 0 5),oo 26 (kl 1 25),oo 27 (.copy 3 (.t 24) (.t 26))]
 (sq 6 [oo 28 (kf 0 3),oo 29 (kl 1 28),om 30 6,oo 31 (.append 3 3 true 32 (.t 29) (.t 30)),oo 32 (kf 0 3),os (ks 1 32 31)]
 (sq 4 [oo 33 (kf 1 5),oo 34 (kl 1 33),oo 35 (kn 34),oo 36 (km 0)]
 (.block 2 (.loop (lh 37 36 35 2
 (.seq (.block 3 (sq 4 [oo 38 (ki 3 34 36),oo 39 (kL 3 38),oo 8 (.alloc 2 [.d (.str []),.nilS,.nilS]),os (ks 3 8 39)]
 (sq 5 [oo 40 (kf 0 8),oo 41 (kl 1 40),oo 42 (.build [.d (.str []),.nilS,.nilS] [(0,1,.t 41)]),oo 9 (.alloc 3 [.d (.str []),.nilS,.nilS]),os (ks 3 9 42)]
 (.seq (sq 4 [oo 43 (kf 1 8),oo 44 (kl 1 43),oo 45 (kn 44),oo 46 (km 0)]
 (.block 4 (.loop (lh 47 46 45 4
 (.seq (.block 5 (sq 4 [oo 48 (ki 2 44 46),oo 49 (kL 2 48),oo 11 (.alloc 2 [.d (.str []),.nilS]),os (ks 2 11 49)]
 (.reg 12 [oo 50 (kf 1 9),oo 51 (kl 1 50),oo 52 (kf 0 11),oo 53 (kl 1 52),oo 54 (kf 1 11),oo 55 (kl 1 54),ok 56 (ka 61 [.t 55]) [52,50],oo 57 (.build [.d (.str []),.nilS] [(0,1,.t 53),(1,1,.t 56)]),ok 58 (.mkSl 8 2 true true [.d (.str []),.nilS] 1 [(0,.t 57)]) [50],oo 59 (.append 9 2 true 40 (.t 51) (.t 58)),oo 60 (kf 1 9),os (ks 1 60 59)])))
 (li 61 46))))))
 (.seq (sq 4 [oo 62 (kf 2 8),oo 63 (kl 1 62),oo 64 (kn 63),oo 65 (km 0)]
 (.block 6 (.loop (lh 66 65 64 6
 (.seq (.block 7 (sq 4 [oo 67 (ki 2 63 65),oo 68 (kL 2 67),oo 13 (.alloc 2 [.d (.str []),.nilS]),os (ks 2 13 68)]
 (.reg 12 [oo 69 (kf 2 9),oo 70 (kl 1 69),oo 71 (kf 0 13),oo 72 (kl 1 71),oo 73 (kf 1 13),oo 74 (kl 1 73),ok 75 (ka 61 [.t 74]) [71,69],oo 76 (.build [.d (.str []),.nilS] [(0,1,.t 72),(1,1,.t 75)]),ok 77 (.mkSl 8 2 true true [.d (.str []),.nilS] 1 [(0,.t 76)]) [69],oo 78 (.append 9 2 true 40 (.t 70) (.t 77)),oo 79 (kf 2 9),os (ks 1 79 78)])))
 (li 80 65))))))
 (.reg 7 [oo 81 (kf 1 3),oo 82 (kl 1 81),oo 83 (kL 3 9),oo 84 (.mkSl 3 3 true true [.d (.str []),.nilS,.nilS] 1 [(0,.t 83)]),oo 85 (.append 4 3 true 64 (.t 82) (.t 84)),oo 86 (kf 1 3),os (ks 1 86 85)]))))))
 (li 87 36)))))))))))
 (li 88 16))))))
 (sq 2 [oo 89 (kL 2 3),os (ks 2 2 89)]
 .ret)))),[.cell 2 2 true],true,false,true,false⟩
def i37:IFun:= ⟨23,(sq 1 [oo 2 (.alloc 0 [.nilS,.d (.int .i64 0)])]
 (sq 7 [oo 4 (.mkSl 0 1 false false [.d (.int .i64 0)] 2 [(0,(ci 1)),(1,(ci 0))]),oo 5 (.build [.d (.str []),.nilS] [(0,1,.c (.d (.str [99,111,110,115]))),(1,1,.t 4)]),oo 6 (.build [.d (.str []),.nilS] [(0,1,.c (.d (.str [97])))]),oo 7 (.mkSl 3 2 true false [.d (.str []),.nilS] 2 [(0,.t 5),(1,.t 6)]),oo 8 (.build [.nilS,.d (.int .i64 0)] [(0,1,.t 7)]),oo 3 (.alloc 5 [.nilS,.d (.int .i64 0)]),os (ks 2 3 8)]
 (.seq (sq 1 [om 9 0]
 (.cond (.t 9) (sq 6 [oo 10 (kf 0 3),oo 11 (kl 1 10),oo 12 (.mkSl 2 1 false false [.d (.int .i64 0)] 2 [(0,(ci 1)),(1,(ci 2))]),oo 13 (.iaddrS 2 (.t 11) (ci 0)),oo 14 (kf 1 13),os (ks 1 14 12)]
 (.reg 8 [oo 15 (kf 0 3),oo 16 (kl 1 15),oo 17 (.mkSl 2 1 false false [.d (.int .i64 0)] 2 [(0,(ci 1)),(1,(ci 0))]),oo 18 (.build [.d (.str []),.nilS] [(0,1,.c (.d (.str [99,111,110,115]))),(1,1,.t 17)]),oo 19 (.mkSl 4 2 true false [.d (.str []),.nilS] 1 [(0,.t 18)]),oo 20 (.append 5 2 true 40 (.t 16) (.t 19)),oo 21 (kf 0 3),os (ks 1 21 20)]))
 .skip))
 (sq 2 [oo 22 (kL 2 3),os (ks 2 2 22)]
 .ret)))),[.cell 2 2 true],true,false,false,false⟩
def i38:IFun:= ⟨101,(sq 2 [oo 4 (.alloc 0 [.nilS,.nilS]),oo 5 (km 0)]
 (.seq (.block 0 (sq 6 [om 14 0,oo 15 (kn 14),om 16 1,oo 17 (kn 16),oo 18 (kb .neq 15 17),om 13 18]
 (.cond (.t 13) (sq 3 [oo 19 (.build [.nilS,.nilS] []),os (ks 2 4 19),oo 5 (km 7)]
 .ret)
 (sq 4 [om 21 0,oo 22 (kn 21),oo 23 (kc .gtr 22 24),om 20 23]
 (.cond (.t 20) (sq 3 [oo 24 (.build [.nilS,.nilS] []),os (ks 2 4 24),oo 5 (km 2)]
 .ret)
 .skip)))))
 (sq 5 [oo 25 (.build [.d (.str []),.d (.int .i64 0),.d (.int .i64 0)] [(0,1,.c (.d (.str [115,97,109,101]))),(1,1,(ci 2)),(2,1,(ci 1))]),oo 26 (.mkSl 1 3 true true [.d (.str []),.d (.int .i64 0),.d (.int .i64 0)] 1 [(0,.t 25)]),oo 27 (.build [.nilS,.nilS] [(0,1,.t 26)]),oo 6 (.alloc 3 [.nilS,.nilS]),os (ks 2 6 27)]
 (.seq (sq 3 [om 28 0,oo 29 (kn 28),oo 30 (km 0)]
 (.block 1 (.loop (lh 31 30 29 1
 (.seq (.block 2 (sq 5 [om 32 30,oo 33 (ki 1 28 30),oo 34 (kl 1 33),om 7 32,om 8 34]
 (.seq (.block 3 (sq 4 [om 36 8,oo 37 (ka 62 [.t 36]),oo 38 (.un .not (.t 37)),om 35 38]
 (.cond (.t 35) (sq 3 [oo 39 (.build [.nilS,.nilS] []),os (ks 2 4 39),oo 5 (km 4)]
 .ret)
 (sq 13 [om 41 1,om 42 7,oo 43 (ki 1 41 42),oo 44 (kl 1 43),oo 45 (kc .lss 44 0),om 46 45,gm 47 1 46,gm 48 7 46,og 49 (ki 1 47 48) 46,og 50 (kl 1 49) 46,og 51 (kc .gtr 50 4) 46,oo 52 (kp 46 51),om 40 52]
 (.cond (.t 40) (sq 3 [oo 53 (.build [.nilS,.nilS] []),os (ks 2 4 53),oo 5 (km 3)]
 .ret)
 .skip)))))
 (sq 12 [om 54 1,om 55 7,oo 56 (ki 1 54 55),oo 57 (kl 1 56),om 59 1,om 60 7,oo 61 (ki 1 59 60),oo 62 (kl 1 61),ok 58 (ka 63 [ci 0,.t 57]) [61],oo 63 (ka 63 [ci 4,.t 62]),om 9 58,om 10 63]
 (sq 10 [om 64 8,om 65 9,oo 66 (.build [.d (.str []),.nilS] [(0,1,.t 64),(1,1,.t 65)]),om 67 8,om 68 10,oo 69 (.build [.d (.str []),.nilS] [(0,1,.t 67),(1,1,.t 68)]),oo 70 (.mkSl 6 2 true true [.d (.str []),.nilS] 2 [(0,.t 66),(1,.t 69)]),oo 71 (.build [.d (.str []),.nilS,.nilS] [(0,1,.c (.d (.str [115,97,109,101]))),(1,1,.t 70)]),oo 11 (.alloc 8 [.d (.str []),.nilS,.nilS]),os (ks 3 11 71)]
 (.seq (sq 3 [om 72 9,oo 73 (kn 72),oo 74 (km 0)]
 (.block 4 (.loop (lh 75 74 73 4
 (.seq (.block 5 (sq 2 [om 76 74,om 12 76]
 (.reg 16 [oo 77 (kf 2 11),oo 78 (kl 1 77),om 79 9,om 80 12,oo 81 (ki 1 79 80),oo 82 (kl 1 81),om 83 10,om 84 12,oo 85 (ki 1 83 84),oo 86 (kl 1 85),ok 87 (.mkSl 10 1 false true [.d (.str [])] 2 [(0,.t 82),(1,.t 86)]) [77],oo 88 (.build [.d (.str []),.nilS] [(0,1,.c (.d (.str [115,97,109,101]))),(1,1,.t 87)]),ok 89 (.mkSl 12 2 true true [.d (.str []),.nilS] 1 [(0,.t 88)]) [77],oo 90 (.append 13 2 true 40 (.t 78) (.t 89)),oo 91 (kf 2 11),os (ks 1 91 90)])))
 (li 92 74))))))
 (.reg 7 [oo 93 (kf 1 6),oo 94 (kl 1 93),oo 95 (kL 3 11),oo 96 (.mkSl 3 3 true true [.d (.str []),.nilS,.nilS] 1 [(0,.t 95)]),oo 97 (.append 4 3 true 64 (.t 94) (.t 96)),oo 98 (kf 1 6),os (ks 1 98 97)])))))))
 (li 99 30))))))
 (sq 3 [oo 100 (kL 2 6),os (ks 2 4 100),oo 5 (km 0)]
 .ret))))),[.cell 4 2 true,.t 5],false,false,true,false⟩
def i39:IFun:= ⟨11,(sq 4 [oo 2 (kx 0 0),oo 3 (kx 1 1),oo 4 (.alloc 2 [.nilS,.nilS]),oo 5 (km 0)]
 (sq 7 [oo 6 (kL 2 2),oo 7 (kL 2 3),oo 8 (ka 64 [.t 6,.t 7,.c (.fn 65 [] [])]),oo 9 (ke 0 8),oo 10 (ke 1 8),os (ks 2 4 9),om 5 10]
 .ret)),[.cell 4 2 true,.t 5],true,false,false,false⟩
def i40:IFun:= ⟨11,(sq 4 [oo 2 (kx 0 0),oo 3 (kx 1 1),oo 4 (.alloc 2 [.nilS,.nilS]),oo 5 (km 0)]
 (sq 7 [oo 6 (kL 2 2),oo 7 (kL 2 3),oo 8 (ka 66 [.t 6,.t 7,.c (.fn 67 [] [])]),oo 9 (ke 0 8),oo 10 (ke 1 8),os (ks 2 4 9),om 5 10]
 .ret)),[.cell 4 2 true,.t 5],true,false,false,false⟩
def i41:IFun:= ⟨26,(sq 1 [oo 4 kF]
 (.seq (sq 5 [om 6 0,oo 7 (kn 6),om 8 1,oo 9 (kn 8),oo 10 (kb .neq 7 9)]
 (.cond (.t 10) (sq 1 [oo 4 kF]
 .ret)
 .skip))
 (.seq (sq 3 [om 11 0,oo 12 (kn 11),oo 13 (km 0)]
 (.block 0 (.loop (lh 14 13 12 0
 (.seq (.block 1 (sq 2 [om 15 13,om 5 15]
 (sq 9 [om 16 0,om 17 5,oo 18 (ki 1 16 17),oo 19 (kl 1 18),om 20 1,om 21 5,oo 22 (ki 1 20 21),oo 23 (kl 1 22),oo 24 (kb .neq 19 23)]
 (.cond (.t 24) (sq 1 [oo 4 kF]
 .ret)
 .skip))))
 (li 25 13))))))
 (sq 1 [oo 4 kT]
 .ret)))),[.t 4],true,false,false,false⟩
def i42:IFun:= ⟨8,(sq 1 [oo 4 kF]
 (sq 4 [om 5 0,om 6 1,oo 7 (ka 68 [.t 5,.t 6,.c (.fn 69 [] [])]),om 4 7]
 .ret)),[.t 4],true,false,false,false⟩
def i43:IFun:= ⟨83,(sq 1 [oo 2 (.mv (.c (.d (.int .u64 0))))]
 (.seq (sq 6 [om 3 0,oo 4 (.nilck (.t 3)),oo 5 (kf 0 4),oo 6 (kl 1 5),oo 7 (kn 6),oo 8 (kc .gtr 7 0)]
 (.cond (.t 8) (sq 26 [om 9 0,oo 10 (.nilck (.t 9)),oo 11 (kf 2 10),oo 12 (kl 1 11),om 13 0,oo 14 (.nilck (.t 13)),oo 15 (kf 0 14),oo 16 (kl 1 15),om 17 0,oo 18 (.nilck (.t 17)),oo 19 (kf 1 18),oo 20 (kl 1 19),om 21 0,oo 22 (.nilck (.t 21)),oo 23 (kf 0 22),oo 24 (kl 1 23),oo 25 (kn 24),oo 26 (kb .rem 20 25),oo 27 (ki 1 16 26),oo 28 (kl 1 27),oo 29 (.convI .u64 (.t 28)),oo 30 (.bin .add (.t 29) (.c (.d (.int .u64 1)))),oo 31 (kb .add 12 30),oo 32 (.nilck (.t 9)),oo 33 (kf 2 32),os (ks 1 33 31)]
 (.reg 8 [om 34 0,oo 35 (.nilck (.t 34)),oo 36 (kf 1 35),oo 37 (kl 1 36),oo 38 (kc .add 37 1),oo 39 (.nilck (.t 34)),oo 40 (kf 1 39),os (ks 1 40 38)]))
 .skip))
 (sq 13 [om 41 0,oo 42 (.nilck (.t 41)),oo 43 (kf 2 42),oo 44 (kl 1 43),om 45 0,oo 46 (.nilck (.t 45)),oo 47 (kf 2 46),oo 48 (kl 1 47),oo 49 (.bin .shl (.t 48) (.c (.d (.int .u64 13)))),oo 50 (kb .xor 44 49),oo 51 (.nilck (.t 41)),oo 52 (kf 2 51),os (ks 1 52 50)]
 (sq 13 [om 53 0,oo 54 (.nilck (.t 53)),oo 55 (kf 2 54),oo 56 (kl 1 55),om 57 0,oo 58 (.nilck (.t 57)),oo 59 (kf 2 58),oo 60 (kl 1 59),oo 61 (.bin .shr (.t 60) (.c (.d (.int .u64 7)))),oo 62 (kb .xor 56 61),oo 63 (.nilck (.t 53)),oo 64 (kf 2 63),os (ks 1 64 62)]
 (sq 13 [om 65 0,oo 66 (.nilck (.t 65)),oo 67 (kf 2 66),oo 68 (kl 1 67),om 69 0,oo 70 (.nilck (.t 69)),oo 71 (kf 2 70),oo 72 (kl 1 71),oo 73 (.bin .shl (.t 72) (.c (.d (.int .u64 17)))),oo 74 (kb .xor 68 73),oo 75 (.nilck (.t 65)),oo 76 (kf 2 75),os (ks 1 76 74)]
 (sq 7 [om 77 0,oo 78 (.nilck (.t 77)),oo 79 (kf 2 78),oo 80 (kl 1 79),oo 81 (.bin .mul (.t 80) (.c (.d (.int .u64 2685821657736338717)))),oo 82 (.bin .shr (.t 81) (.c (.d (.int .u64 33)))),om 2 82]
 .ret)))))),[.t 2],false,false,true,false⟩
def i44:IFun:= ⟨9,(sq 1 [oo 2 (.alloc 0 [.d (.str []),.d (.str []),.d (.str [])])]
 (sq 7 [oo 3 (.build [.d (.str []),.d (.str []),.d (.str [])] [(0,1,.c (.d (.str [97]))),(1,1,.c (.d (.str [110,105,108]))),(2,1,.c (.d (.str [98])))]),oo 4 (.build [.d (.str []),.d (.str []),.d (.str [])] [(0,1,.c (.d (.str [115]))),(1,1,.c (.d (.str [117]))),(2,1,.c (.d (.str [116])))]),oo 5 (.build [.d (.str []),.d (.str []),.d (.str [])] [(0,1,.c (.d (.str [99,111,110,115]))),(1,1,.c (.d (.str [112]))),(2,1,.c (.d (.str [113])))]),oo 6 (.build [.d (.str []),.d (.str []),.d (.str []),.d (.str []),.d (.str []),.d (.str []),.d (.str []),.d (.str []),.d (.str [])] [(0,3,.t 3),(3,3,.t 4),(6,3,.t 5)]),om 7 0,oo 8 (.indexA 3 3 true (.t 6) (.t 7)),os (ks 3 2 8)]
 .ret)),[.cell 2 3 true],true,false,false,false⟩
abbrev q46_93:IC:= (sq 6 [oo 93 (kl 1 7),oo 94 (.nilck (.t 93)),oo 95 (kf 2 94),oo 96 (kl 1 95),oo 97 (kn 96),oo 98 (kc .gtr 97 300)]
 (.cond (.t 98) (sq 2 [oo 4 (.mv (.c .nilP)),oo 5 (km 9)]
 .ret)
 .skip))
abbrev q46_177:IC:= (sq 10 [oo 177 (kl 1 7),oo 178 (kl 1 7),oo 179 (.nilck (.t 178)),oo 180 (kf 3 179),oo 181 (kl 1 180),oo 182 (kn 181),oo 183 (.mkslice 6 1 false 8 [.d (.int .i64 0)] (.t 182) (.t 182)),oo 184 (.nilck (.t 177)),oo 185 (kf 4 184),os (ks 1 185 183)]
 (sq 3 [oo 186 (kl 1 7),om 4 186,oo 5 (km 0)]
 .ret))
abbrev y2q:IC:= (lh 106 105 104 6
 (.seq (.block 7 (sq 4 [oo 107 (ki 2 103 105),oo 108 (kL 2 107),oo 18 (.alloc 2 [.d (.str []),.nilS]),os (ks 2 18 108)]
 (.reg 21 [oo 109 (kl 1 7),oo 110 (kl 1 7),oo 111 (.nilck (.t 110)),oo 112 (kf 3 111),oo 113 (kl 1 112),oo 114 (kf 0 2),oo 115 (kl 1 114),oo 116 (kL 2 2),oo 117 (.build [.nilS,.nilS] [(0,2,.t 116)]),oo 118 (kf 0 18),oo 119 (kl 1 118),ok 120 (ka 33 [.t 117,.t 119]) [114,112,7,7],oo 121 (ki 3 115 120),oo 122 (kf 2 121),oo 123 (kl 1 122),oo 124 (.build [.d (.int .i64 0),.d (.int .i64 0),.nilS,.d (.int .i64 0)] [(0,1,(ci 0)),(1,1,.t 123)]),ok 125 (.mkSl 16 4 true true [.d (.int .i64 0),.d (.int .i64 0),.nilS,.d (.int .i64 0)] 1 [(0,.t 124)]) [112,7,7],ok 126 (.append 17 4 true 48 (.t 113) (.t 125)) [7],oo 127 (.nilck (.t 109)),oo 128 (kf 3 127),os (ks 1 128 126)])))
 (li 129 105)))
abbrev q46_66:IC:= (sq 4 [om 66 12,oo 67 (.build [.d (.int .i64 0),.d (.int .i64 0),.nilS,.d (.int .i64 0)] [(0,1,(ci 1)),(3,1,.t 66)]),oo 14 (.alloc 2 [.d (.int .i64 0),.d (.int .i64 0),.nilS,.d (.int .i64 0)]),os (ks 4 14 67)]
 (.seq (sq 3 [om 68 13,oo 69 (kn 68),oo 70 (km 0)]
 (.block 4 (.loop (lh 71 70 69 4
 (.seq (.block 5 (sq 4 [oo 72 (ki 2 68 70),oo 73 (kL 2 72),oo 16 (.alloc 2 [.d (.str []),.nilS]),os (ks 2 16 73)]
 (.reg 9 [oo 74 (kf 2 14),oo 75 (kl 1 74),oo 76 (kl 1 9),oo 77 (kL 2 16),ok 78 (.call (.o (.t 76)) [.t 77]) [74],ok 79 (.mkSl 5 1 false true [.d (.int .i64 0)] 1 [(0,.t 78)]) [74],oo 80 (.append 6 1 false 8 (.t 75) (.t 79)),oo 81 (kf 2 14),os (ks 1 81 80)])))
 (li 82 70))))))
 (.reg 11 [oo 83 (kl 1 10),oo 84 (kl 1 11),oo 85 (kl 1 10),oo 86 (kl 1 11),oo 87 (ki 1 85 86),oo 88 (kl 1 87),oo 89 (kL 4 14),ok 90 (.mkSl 7 4 true true [.d (.int .i64 0),.d (.int .i64 0),.nilS,.d (.int .i64 0)] 1 [(0,.t 89)]) [87,11,10,11,10],ok 91 (.append 8 4 true 48 (.t 88) (.t 90)) [11,10],oo 92 (ki 1 83 84),os (ks 1 92 91)])))
abbrev q46_140:IC:= (lh 140 139 138 10
 (.seq (.block 11 (sq 4 [oo 141 (ki 4 137 139),oo 142 (kL 4 141),oo 22 (.alloc 2 [.d (.int .i64 0),.d (.int .i64 0),.nilS,.d (.int .i64 0)]),os (ks 4 22 142)]
 (sq 23 [oo 143 (kl 1 7),oo 144 (.nilck (.t 143)),oo 145 (kf 3 144),oo 146 (kl 1 145),om 147 19,oo 148 (kl 1 7),oo 149 (.nilck (.t 148)),oo 150 (kf 3 149),oo 151 (kl 1 150),om 152 19,oo 153 (ki 4 151 152),oo 154 (kf 2 153),oo 155 (kl 1 154),oo 156 (kl 1 7),oo 157 (.nilck (.t 156)),oo 158 (kf 3 157),oo 159 (kl 1 158),oo 160 (kn 159),ok 161 (.mkSl 18 1 false true [.d (.int .i64 0)] 1 [(0,.t 160)]) [154,150,7,145,7],ok 162 (.append 19 1 false 8 (.t 155) (.t 161)) [145,7],oo 163 (ki 4 146 147),oo 164 (kf 2 163),os (ks 1 164 162)]
 (.reg 11 [oo 165 (kl 1 7),oo 166 (kl 1 7),oo 167 (.nilck (.t 166)),oo 168 (kf 3 167),oo 169 (kl 1 168),oo 170 (kL 4 22),ok 171 (.mkSl 6 4 true true [.d (.int .i64 0),.d (.int .i64 0),.nilS,.d (.int .i64 0)] 1 [(0,.t 170)]) [168,7,7],ok 172 (.append 7 4 true 48 (.t 169) (.t 171)) [7],oo 173 (.nilck (.t 165)),oo 174 (kf 3 173),os (ks 1 174 172)]))))
 (li 175 139)))
abbrev y2p:IC:= (lh 133 132 131 8
 (.seq (.block 9 (sq 5 [om 134 132,oo 135 (ki 1 130 132),oo 136 (kl 1 135),om 19 134,om 20 136]
 (sq 3 [om 137 20,oo 138 (kn 137),oo 139 (km 0)]
 (.block 10 (.loop q46_140)))))
 (li 176 132)))
abbrev q46_52:IC:= (sq 4 [oo 52 (kl 1 10),oo 53 (.mkSl 1 1 false true [.nilS] 1 [(0,(.c .nilS))]),oo 54 (.append 2 1 false 24 (.t 52) (.t 53)),os (ks 1 10 54)]
 (.seq (sq 9 [oo 55 (kl 1 7),oo 56 (kl 1 7),oo 57 (.nilck (.t 56)),oo 58 (kf 2 57),oo 59 (kl 1 58),oo 60 (kl 1 11),oo 61 (ki 2 59 60),oo 62 (kL 2 61),oo 63 (ka 75 [.t 55,.t 62])]
 (.block 2 (.rf (.t 63) [64,65] (sq 1 [om 12 64]
 (.reg 1 [om 13 65]))
 (.block 3 q46_66))))
 q46_93))
abbrev q46_130:IC:= (.seq (sq 3 [oo 130 (kl 1 10),oo 131 (kn 130),oo 132 (km 0)]
 (.block 8 (.loop y2p)))
 q46_177)
abbrev q46_43:IC:= (.seq (sq 7 [oo 43 (kl 1 11),oo 44 (kl 1 7),oo 45 (.nilck (.t 44)),oo 46 (kf 2 45),oo 47 (kl 1 46),oo 48 (kn 47),oo 49 (kb .lss 43 48)]
 (.cond (.t 49) .skip
 (.exit 0)))
 (.seq (.block 1 q46_52)
 (.seq (sq 1 [oo 99 (kl 1 11)]
 (.reg 2 [oo 11 (.alloc 0 [.d (.int .i64 0)]),os (ks 1 11 99)]))
 (.reg 3 [oo 50 (kl 1 11),oo 51 (kc .add 50 1),os (ks 1 11 51)]))))
abbrev q46_100:IC:= (.seq (sq 6 [oo 100 (kl 1 7),oo 101 (.nilck (.t 100)),oo 102 (kf 2 101),oo 103 (kl 1 102),oo 104 (kn 103),oo 105 (km 0)]
 (.block 6 (.loop y2q)))
 q46_130)
def i46:IFun:= ⟨187,(sq 4 [oo 2 (kx 0 0),oo 3 (kx 1 1),oo 4 (.mv (.c .nilP)),oo 5 (km 0)]
 (.seq (sq 4 [oo 23 (kL 2 2),oo 24 (kL 2 3),oo 25 (ka 70 [.t 23,.t 24]),om 6 25]
 (sq 2 [om 26 6,oo 27 (kc .neq 26 0)]
 (.cond (.t 27) (sq 3 [om 28 6,oo 4 (.mv (.c .nilP)),om 5 28]
 .ret)
 .skip)))
 (sq 5 [oo 29 (kL 2 2),oo 30 (.build [.nilS,.nilS,.nilS,.nilS,.nilS,.nilF] [(0,2,.t 29)]),oo 31 (kx 2 30),oo 7 (.alloc 3 [.nilP]),os (ks 1 7 31)]
 (sq 6 [oo 32 (kl 1 7),oo 33 (kl 1 7),oo 34 (.mkf 71 [.t 33] []),oo 35 (.nilck (.t 32)),oo 36 (kf 5 35),os (ks 1 36 34)]
 (sq 3 [oo 37 (.mkmap 0 153),oo 8 (.alloc 1 [.nilM]),os (ks 1 8 37)]
 (sq 3 [oo 38 (.mkf 72 [] [.t 8,.t 7]),oo 9 (.alloc 1 [.nilF]),os (ks 1 9 38)]
 (sq 4 [oo 39 (kl 1 9),oo 40 (kL 2 3),ok 41 (ka 74 [.t 40]) [9],oo 42 (.call (.o (.t 39)) [.t 41])]
 (sq 1 [oo 10 (.alloc 0 [.nilS])]
 (.seq (sq 2 [oo 11 (.alloc 0 [.d (.int .i64 0)]),os (.store 1 (.t 11) (ci 0))]
 (.block 0 (.loop q46_43)))
 q46_100))))))))),[.t 4,.t 5],false,false,true,false⟩
def i47:IFun:= ⟨102,(sq 1 [oo 8 (.mv (.c .nilS))]
 (sq 4 [om 17 2,oo 18 (kn 17),oo 19 (.mkslice 2 1 false 1 [.d (.bool false)] (.t 18) (.t 18)),om 9 19]
 (sq 3 [om 20 9,om 21 2,oo 22 (.copy 1 (.t 20) (.t 21))]
 (.seq (sq 1 [oo 10 kT]
 (.block 0 (.loop (.seq (sq 1 [om 23 10]
 (.cond (.t 23) .skip
 (.exit 0)))
 (.block 1 (sq 1 [oo 10 kF]
 (.seq .skip
 (sq 6 [om 24 0,oo 25 (.nilck (.t 24)),oo 26 (kf 3 25),oo 27 (kl 1 26),oo 28 (kn 27),oo 29 (km 0)]
 (.block 2 (.loop (lh 30 29 28 2
 (.seq (.block 3 (sq 6 [om 31 29,oo 32 (ki 4 27 29),oo 33 (kL 4 32),oo 12 (.alloc 3 [.d (.int .i64 0),.d (.int .i64 0),.nilS,.d (.int .i64 0)]),om 11 31,os (ks 4 12 33)]
 (.seq (sq 11 [om 34 1,om 35 11,oo 36 (ki 1 34 35),oo 37 (kl 1 36),oo 38 (.un .not (.t 37)),om 39 38,gm 40 9 39,gm 41 11 39,og 42 (ki 1 40 41) 39,og 43 (kl 1 42) 39,oo 44 (kp 39 43)]
 (.cond (.t 44) (.exit 3)
 .skip))
 (sq 9 [om 45 0,oo 46 (.nilck (.t 45)),oo 47 (kf 5 46),oo 48 (kl 1 47),om 49 11,om 50 3,oo 51 (.call (.o (.t 48)) [.t 49,.t 50]),om 13 51,oo 14 kF]
 (.seq (sq 4 [oo 52 (kf 2 12),oo 53 (kl 1 52),oo 54 (kn 53),oo 55 (km 0)]
 (.block 4 (.loop (lh 56 55 54 4
 (.seq (.block 5 (sq 5 [om 57 55,oo 58 (ki 1 53 55),oo 59 (kl 1 58),om 15 57,om 16 59]
 (.seq (sq 5 [om 60 1,om 61 16,oo 62 (ki 1 60 61),oo 63 (kl 1 62),oo 64 (.un .not (.t 63))]
 (.cond (.t 64) (.exit 5)
 .skip))
 (.seq (sq 7 [om 65 13,om 66 65,ot 67 (.mv (.t 9)) 66,ot 68 (.mv (.t 16)) 66,ot 69 (ki 1 67 68) 66,ot 70 (kl 1 69) 66,oo 71 (.pick (.t 66) (.t 70) cf)]
 (.cond (.t 71) (sq 8 [om 72 0,oo 73 (.nilck (.t 72)),oo 74 (kf 4 73),oo 75 (kl 1 74),om 76 11,om 77 15,oo 78 (ki 1 75 76),os (ks 1 78 77)]
 (sq 5 [om 79 9,om 80 11,oo 81 (ki 1 79 80),os (.store 1 (.t 81) ct),oo 10 kT]
 (.exit 3)))
 .skip))
 (.reg 9 [om 82 14,om 83 82,gm 84 9 83,gm 85 16 83,og 86 (ki 1 84 85) 83,og 87 (kl 1 86) 83,og 88 (.un .not (.t 87)) 83,oo 89 (kp 83 88),om 14 89])))))
 (li 90 55))))))
 (sq 6 [om 91 13,oo 92 (.un .not (.t 91)),om 93 92,ot 94 (.mv (.t 14)) 93,ot 95 (.un .not (.t 94)) 93,oo 96 (.pick (.t 93) (.t 95) cf)]
 (.cond (.t 96) (.reg 5 [om 97 9,om 98 11,oo 99 (ki 1 97 98),os (.store 1 (.t 99) ct),oo 10 kT])
 .skip)))))))
 (li 100 29)))))))))))))
 (sq 2 [om 101 9,om 8 101]
 .ret))))),[.t 8],false,false,true,false⟩
def i48:IFun:= ⟨31,(sq 1 [oo 4 (.mv (.c .nilS))]
 (sq 4 [om 7 0,oo 8 (kn 7),oo 9 (.mkslice 2 1 false 1 [.d (.bool false)] (.t 8) (.t 8)),om 5 9]
 (.seq (sq 3 [om 10 0,oo 11 (kn 10),oo 12 (km 0)]
 (.block 0 (.loop (lh 13 12 11 0
 (.seq (.block 1 (sq 2 [om 14 12,om 6 14]
 (.reg 15 [om 15 5,om 16 6,om 17 0,om 18 6,oo 19 (ki 1 17 18),oo 20 (kl 1 19),om 21 20,ot 22 (.mv (.t 1)) 21,ot 23 (.mv (.t 6)) 21,ot 24 (ki 1 22 23) 21,ot 25 (kl 1 24) 21,ot 26 (.un .not (.t 25)) 21,oo 27 (.pick (.t 21) (.t 26) cf),oo 28 (ki 1 15 16),os (ks 1 28 27)])))
 (li 29 12))))))
 (sq 2 [om 30 5,om 4 30]
 .ret)))),[.t 4],false,false,true,false⟩
def i49:IFun:= ⟨42,(sq 1 [oo 4 (.mv (.c .nilS))]
 (sq 4 [om 9 0,oo 10 (kn 9),oo 11 (.mkslice 2 1 false 1 [.d (.bool false)] (.t 10) (.t 10)),om 5 11]
 (sq 3 [om 12 5,om 13 0,oo 14 (.copy 1 (.t 12) (.t 13))]
 (.seq (sq 3 [om 15 1,oo 16 (kn 15),oo 17 (km 0)]
 (.block 0 (.loop (lh 18 17 16 0
 (.seq (.block 1 (sq 3 [oo 19 (ki 1 15 17),oo 20 (kl 1 19),om 7 20]
 (sq 3 [om 21 7,oo 22 (kn 21),oo 23 (km 0)]
 (.block 2 (.loop (lh 24 23 22 2
 (.seq (.block 3 (sq 2 [om 25 23,om 8 25]
 (.reg 14 [om 26 5,om 27 8,om 28 5,om 29 8,oo 30 (ki 1 28 29),oo 31 (kl 1 30),om 32 31,gm 33 7 32,gm 34 8 32,og 35 (ki 1 33 34) 32,og 36 (kl 1 35) 32,oo 37 (kp 32 36),oo 38 (ki 1 26 27),os (ks 1 38 37)])))
 (li 39 23))))))))
 (li 40 17))))))
 (sq 2 [om 41 5,om 4 41]
 .ret))))),[.t 4],false,false,true,false⟩
abbrev y2l:IC:= (sq 11 [om 170 8,oo 171 (.bin .sub (ci 1) (.t 170)),om 172 8,oo 173 (.bin .sub (ci 1) (.t 172)),oo 174 (.iaddrA 2 1 (.t 17) (.t 173)),oo 175 (kl 1 174),om 176 16,oo 177 (.mkSl 7 1 false true [.nilS] 1 [(0,.t 176)]),oo 178 (ka 49 [.t 175,.t 177]),oo 179 (.iaddrA 2 1 (.t 17) (.t 171)),os (ks 1 179 178)]
 (sq 2 [oo 180 (kL 2 17),os (ks 2 4 180)]
 .ret))
abbrev y2m:IC:= (sq 7 [om 165 0,om 166 1,om 167 16,oo 168 (ka 48 [.t 166,.t 167]),oo 169 (ka 50 [.t 165,.t 168]),oo 17 (.alloc 5 [.nilS,.nilS]),os (ks 2 17 169)]
 y2l)
abbrev y2n:IC:= (sq 10 [om 156 0,om 157 1,om 158 8,oo 159 (.bin .sub (ci 1) (.t 158)),oo 160 (.iaddrA 2 1 (.t 14) (.t 159)),oo 161 (kl 1 160),om 162 8,oo 163 (.bin .sub (ci 1) (.t 162)),oo 164 (ka 47 [.t 156,.t 157,.t 161,.t 163]),om 16 164]
 y2m)
abbrev q50_92:IC:= (sq 13 [om 92 9,om 93 10,oo 94 (ki 1 92 93),oo 95 (kl 1 94),om 96 95,ot 97 (.mv (.t 0)) 96,ot 98 (.nilck (.t 97)) 96,ot 99 (kf 5 98) 96,ot 100 (kl 1 99) 96,ot 101 (.mv (.t 10)) 96,ot 102 (.mv (.t 8)) 96,ot 103 (.call (.o (.t 100)) [.t 101,.t 102]) 96,oo 104 (.pick (.t 96) (.t 103) cf)]
 (.cond (.t 104) (sq 10 [om 105 0,oo 106 (.nilck (.t 105)),oo 107 (kf 3 106),oo 108 (kl 1 107),om 109 10,oo 110 (ki 4 108 109),oo 111 (kf 2 110),oo 112 (kl 1 111),oo 113 (kn 112),oo 114 (km 0)]
 (.block 4 (.loop (lh 115 114 113 4
 (.seq (.block 5 (sq 5 [om 116 114,oo 117 (ki 1 112 114),oo 118 (kl 1 117),om 11 116,om 12 118]
 (sq 4 [om 119 1,om 120 12,oo 121 (ki 1 119 120),oo 122 (kl 1 121)]
 (.cond (.t 122) (.reg 8 [om 123 0,oo 124 (.nilck (.t 123)),oo 125 (kf 4 124),oo 126 (kl 1 125),om 127 10,om 128 11,oo 129 (ki 1 126 127),os (ks 1 129 128)])
 .skip))))
 (li 130 114))))))
 .skip))
abbrev y2o:IC:= (sq 7 [om 137 0,om 138 1,om 139 13,oo 140 (ka 48 [.t 138,.t 139]),oo 141 (ka 50 [.t 137,.t 140]),oo 14 (.alloc 5 [.nilS,.nilS]),os (ks 2 14 141)]
 (.seq (sq 6 [om 142 8,oo 143 (.bin .sub (ci 1) (.t 142)),oo 144 (.iaddrA 2 1 (.t 14) (.t 143)),oo 145 (kl 1 144),oo 146 (ka 76 [.t 145]),oo 147 (.un .not (.t 146))]
 (.cond (.t 147) (sq 1 [oo 15 (.alloc 0 [.nilS,.nilS])]
 (sq 9 [om 148 8,om 149 8,oo 150 (.bin .sub (ci 1) (.t 149)),om 151 1,om 152 5,oo 153 (.iaddrA 2 1 (.t 15) (.t 148)),os (ks 1 153 151),oo 154 (.iaddrA 2 1 (.t 15) (.t 150)),os (ks 1 154 152)]
 (sq 2 [oo 155 (kL 2 15),os (ks 2 4 155)]
 .ret)))
 .skip))
 y2n))
abbrev q50_132:IC:= (sq 6 [om 132 0,om 133 1,om 134 9,om 135 8,oo 136 (ka 47 [.t 132,.t 133,.t 134,.t 135]),om 13 136]
 y2o)
abbrev q50_58:IC:= (sq 35 [om 58 9,om 59 10,om 60 1,om 61 10,oo 62 (ki 1 60 61),oo 63 (kl 1 62),om 64 63,ot 65 (.mv (.t 0)) 64,ot 66 (.nilck (.t 65)) 64,ot 67 (kf 3 66) 64,ot 68 (kl 1 67) 64,ot 69 (.mv (.t 10)) 64,ot 70 (ki 4 68 69) 64,ot 71 (kf 1 70) 64,ot 72 (kl 1 71) 64,ot 73 (.mv (.t 6)) 64,ot 74 (kb .eql 72 73) 64,oo 75 (.pick (.t 64) (.t 74) cf),om 76 75,ot 77 (.mv (.t 6)) 76,ot 78 (kc .gtr 77 0) 76,ot 79 (.mv (.t 78)) 76,gm 80 0 79,og 81 (.nilck (.t 80)) 79,og 82 (kf 3 81) 79,og 83 (kl 1 82) 79,gm 84 10 79,og 85 (ki 4 83 84) 79,og 86 (kf 0 85) 79,og 87 (kl 1 86) 79,og 88 (kc .eql 87 0) 79,ot 89 (kp 79 88) 76,oo 90 (.pick (.t 76) (.t 89) cf),oo 91 (ki 1 58 59),os (ks 1 91 90)]
 q50_92)
abbrev q50_50:IC:= (sq 4 [om 50 1,oo 51 (kn 50),oo 52 (.mkslice 2 1 false 1 [.d (.bool false)] (.t 51) (.t 51)),om 9 52]
 (.seq (sq 3 [om 53 1,oo 54 (kn 53),oo 55 (km 0)]
 (.block 2 (.loop (lh 56 55 54 2
 (.seq (.block 3 (sq 2 [om 57 55,om 10 57]
 q50_58))
 (li 131 55))))))
 q50_132))
def i50:IFun:= ⟨181,(sq 1 [oo 4 (.alloc 0 [.nilS,.nilS])]
 (sq 4 [om 18 1,oo 19 (kn 18),oo 20 (.mkslice 2 1 false 1 [.d (.bool false)] (.t 19) (.t 19)),om 5 20]
 (.seq (sq 3 [om 21 1,oo 22 (ka 76 [.t 21]),oo 23 (.un .not (.t 22))]
 (.cond (.t 23) (sq 4 [om 24 5,om 25 5,oo 26 (.build [.nilS,.nilS] [(0,1,.t 24),(1,1,.t 25)]),os (ks 2 4 26)]
 .ret)
 .skip))
 (sq 1 [oo 6 (km 0)]
 (.seq (sq 3 [om 27 1,oo 28 (kn 27),oo 29 (km 0)]
 (.block 0 (.loop (lh 30 29 28 0
 (.seq (.block 1 (sq 2 [om 31 29,om 7 31]
 (sq 4 [om 32 1,om 33 7,oo 34 (ki 1 32 33),oo 35 (kl 1 34)]
 (.cond (.t 35) (.reg 11 [om 36 6,om 37 0,oo 38 (.nilck (.t 37)),oo 39 (kf 3 38),oo 40 (kl 1 39),om 41 7,oo 42 (ki 4 40 41),oo 43 (kf 1 42),oo 44 (kl 1 43),oo 45 (.mm true [.t 36,.t 44]),om 6 45])
 .skip))))
 (li 46 29))))))
 (sq 1 [oo 8 (km 1)]
 (.seq (sq 3 [om 47 6,oo 48 (kc .rem 47 2),oo 49 (kc .eql 48 1)]
 (.cond (.t 49) (.reg 1 [oo 8 (km 0)])
 .skip))
 q50_50))))))),[.cell 4 2 true],false,false,true,false⟩
def i51:IFun:= ⟨19,(sq 4 [oo 2 (kx 0 0),oo 3 (kx 1 1),oo 4 (.mv (.c .nilP)),oo 5 (km 0)]
 (.seq (sq 5 [oo 7 (kL 2 2),oo 8 (kL 2 3),oo 9 (.mkSl 2 2 true true [.nilS,.d (.int .i64 0)] 2 [(0,.t 7),(1,.t 8)]),oo 10 (ka 77 [.t 9]),om 6 10]
 (sq 2 [om 11 6,oo 12 (kc .neq 11 0)]
 (.cond (.t 12) (sq 3 [om 13 6,oo 4 (.mv (.c .nilP)),om 5 13]
 .ret)
 .skip)))
 (sq 7 [oo 14 (kL 2 2),oo 15 (kL 2 3),oo 16 (.build [.nilS,.d (.int .i64 0),.nilS,.d (.int .i64 0)] [(0,2,.t 14),(2,2,.t 15)]),oo 17 (.build [.nilS,.d (.int .i64 0),.nilS,.d (.int .i64 0),.nilF] [(0,4,.t 16),(4,1,.c (.fn 78 [] []))]),oo 18 (kx 4 17),om 4 18,oo 5 (km 0)]
 .ret))),[.t 4,.t 5],false,false,true,false⟩
def i52:IFun:= ⟨22,(sq 3 [oo 2 (.alloc 0 [.nilS]),oo 3 (.alloc 1 [.d (.int .i64 0),.d (.int .i64 0)]),oo 4 (.alloc 2 [.d (.bool false)])]
 (sq 4 [om 8 0,oo 9 (.mkf 79 [.t 8] []),oo 5 (.alloc 2 [.nilF]),os (ks 1 5 9)]
 (.seq .skip
 (.seq (sq 2 [om 10 0,oo 11 (ka 80 [.t 10])]
 (.block 0 (.rf (.t 11) [12,13] (sq 2 [oo 6 (.alloc 0 [.d (.int .i64 0),.d (.int .i64 0)]),os (ks 2 6 12)]
 (.reg 1 [om 7 13]))
 (.block 1 (sq 3 [oo 14 (kl 1 5),oo 15 (kL 2 6),oo 16 (.call (.o (.t 14)) [.t 15])]
 (.cond (.t 16) (sq 5 [om 17 7,oo 18 (kL 2 6),⟨none,ks 1 2 17,none,[6]⟩,os (ks 2 3 18),os (.store 1 (.t 4) ct)]
 (.exit 0))
 .skip))))))
 (sq 6 [oo 19 (kl 1 2),oo 20 (kL 2 3),oo 21 (kl 1 4),⟨none,ks 1 2 19,none,[4,3]⟩,⟨none,ks 2 3 20,none,[4]⟩,os (ks 1 4 21)]
 .ret))))),[.cell 2 1 false,.cell 3 2 true,.cell 4 1 false],false,false,true,false⟩
def i53:IFun:= ⟨32,(sq 1 [oo 6 kF]
 (.seq (sq 5 [om 10 0,oo 11 (kn 10),om 12 1,oo 13 (kn 12),oo 14 (kb .neq 11 13)]
 (.cond (.t 14) (sq 1 [oo 6 kF]
 .ret)
 .skip))
 (.seq (sq 3 [om 15 0,oo 16 (kn 15),oo 17 (km 0)]
 (.block 0 (.loop (lh 18 17 16 0
 (.seq (.block 1 (sq 6 [om 19 17,oo 20 (ki 2 15 17),oo 21 (kL 2 20),oo 8 (.alloc 3 [.d (.str []),.nilS]),om 7 19,os (ks 2 8 21)]
 (sq 6 [om 22 1,om 23 7,oo 24 (ki 2 22 23),oo 25 (kL 2 24),oo 9 (.alloc 4 [.d (.str []),.nilS]),os (ks 2 9 25)]
 (sq 5 [om 26 2,oo 27 (kL 2 8),oo 28 (kL 2 9),oo 29 (.call (.o (.t 26)) [.t 27,.t 28]),oo 30 (.un .not (.t 29))]
 (.cond (.t 30) (sq 1 [oo 6 kF]
 .ret)
 .skip)))))
 (li 31 17))))))
 (sq 1 [oo 6 kT]
 .ret)))),[.t 6],false,true,false,false⟩
def i54:IFun:= ⟨17,(sq 3 [oo 2 (kx 0 0),oo 3 (kx 1 1),oo 4 kF]
 (sq 13 [oo 5 (kf 0 2),oo 6 (kl 1 5),oo 7 (kf 0 3),oo 8 (kl 1 7),oo 9 (kb .eql 6 8),om 10 9,ot 11 (kf 1 2) 10,ot 12 (kl 1 11) 10,ot 13 (kf 1 3) 10,ot 14 (kl 1 13) 10,ot 15 (ka 41 [.t 12,.t 14]) 10,oo 16 (.pick (.t 10) (.t 15) cf),om 4 16]
 .ret)),[.t 4],true,false,false,false⟩
def i55:IFun:= ⟨42,(sq 2 [oo 2 (kx 0 0),oo 4 (km 0)]
 (sq 8 [oo 6 (kf 0 2),oo 7 (kf 0 6),oo 8 (kl 1 7),om 9 1,oo 10 (ki 3 8 9),oo 11 (kL 3 10),oo 5 (.alloc 6 [.d (.str []),.d (.int .i64 0),.d (.int .i64 0)]),os (ks 3 5 11)]
 (.seq (.block 0 (sq 5 [oo 13 (kf 0 5),oo 14 (kl 1 13),oo 15 (ka 62 [.t 14]),oo 16 (.un .not (.t 15)),om 12 16]
 (.cond (.t 12) (sq 1 [oo 4 (km 4)]
 .ret)
 (sq 9 [oo 18 (kf 1 5),oo 19 (kl 1 18),oo 20 (kc .lss 19 1),om 21 20,og 22 (kf 1 5) 21,og 23 (kl 1 22) 21,og 24 (kc .gtr 23 3) 21,oo 25 (kp 21 24),om 17 25]
 (.cond (.t 17) (sq 1 [oo 4 (km 2)]
 .ret)
 (sq 9 [oo 27 (kf 2 5),oo 28 (kl 1 27),oo 29 (kc .lss 28 0),om 30 29,og 31 (kf 2 5) 30,og 32 (kl 1 31) 30,og 33 (kc .gtr 32 3) 30,oo 34 (kp 30 33),om 26 34]
 (.cond (.t 26) (sq 1 [oo 4 (km 3)]
 .ret)
 (sq 7 [oo 36 (kL 2 2),oo 37 (kf 0 5),oo 38 (kl 1 37),oo 39 (ka 33 [.t 36,.t 38]),om 40 1,oo 41 (kb .lss 39 40),om 35 41]
 (.cond (.t 35) (sq 1 [oo 4 (km 5)]
 .ret)
 .skip)))))))))
 (sq 1 [oo 4 (km 0)]
 .ret)))),[.t 4],true,false,false,false⟩
def i56:IFun:= ⟨84,(sq 3 [oo 2 (kx 0 0),oo 3 (kx 1 1),oo 4 (km 0)]
 (sq 3 [oo 13 (kL 2 2),oo 14 (.mkf 33 [.t 13] []),om 5 14]
 (sq 5 [om 15 5,oo 16 (kf 0 3),oo 17 (kl 1 16),oo 18 (.call (.o (.t 15)) [.t 17]),om 6 18]
 (.seq (sq 2 [om 19 6,oo 20 (kc .lss 19 0)]
 (.cond (.t 20) (sq 1 [oo 4 (km 1)]
 .ret)
 .skip))
 (sq 1 [oo 7 (.mv (.c (.fn 81 [] [])))]
 (.seq (sq 24 [oo 21 (kf 1 3),oo 22 (kl 1 21),oo 23 (kn 22),oo 24 (kf 0 2),oo 25 (kf 0 24),oo 26 (kl 1 25),om 27 6,oo 28 (ki 3 26 27),oo 29 (kf 1 28),oo 30 (kl 1 29),oo 31 (kb .neq 23 30),om 32 31,og 33 (kf 2 3) 32,og 34 (kl 1 33) 32,og 35 (kn 34) 32,og 36 (kc .gtr 35 4) 32,oo 37 (kp 32 36),om 38 37,og 39 (kf 1 3) 38,og 40 (kl 1 39) 38,gm 41 7 38,og 42 (ka 82 [.t 40,.t 41]) 38,og 43 (.un .not (.t 42)) 38,oo 44 (kp 38 43)]
 (.cond (.t 44) (sq 1 [oo 4 (km 2)]
 .ret)
 .skip))
 (sq 2 [oo 8 (.alloc 0 [.nilF]),os (.store 1 (.t 8) (.c (.fn 83 [] [])))]
 (.seq (sq 5 [oo 45 (kf 1 3),oo 46 (kl 1 45),oo 47 (.mkf 85 [] [.t 8]),oo 48 (ka 82 [.t 46,.t 47]),oo 49 (.un .not (.t 48))]
 (.cond (.t 49) (sq 1 [oo 4 (km 4)]
 .ret)
 .skip))
 (.seq (sq 4 [oo 50 (kf 2 3),oo 51 (kl 1 50),oo 52 (kn 51),oo 53 (km 0)]
 (.block 0 (.loop (lh 54 53 52 0
 (.seq (.block 1 (sq 4 [oo 55 (ki 2 51 53),oo 56 (kL 2 55),oo 10 (.alloc 2 [.d (.str []),.nilS]),os (ks 2 10 56)]
 (sq 5 [om 57 5,oo 58 (kf 0 10),oo 59 (kl 1 58),oo 60 (.call (.o (.t 57)) [.t 59]),om 11 60]
 (sq 2 [oo 61 (.mkf 86 [] [.t 3]),om 12 61]
 (.block 2 (sq 3 [om 63 11,oo 64 (kc .lss 63 0),om 62 64]
 (.cond (.t 62) (sq 1 [oo 4 (km 1)]
 .ret)
 (sq 12 [oo 66 (kf 1 10),oo 67 (kl 1 66),oo 68 (kn 67),oo 69 (kf 0 2),oo 70 (kf 0 69),oo 71 (kl 1 70),om 72 11,oo 73 (ki 3 71 72),oo 74 (kf 1 73),oo 75 (kl 1 74),oo 76 (kb .neq 68 75),om 65 76]
 (.cond (.t 65) (sq 1 [oo 4 (km 2)]
 .ret)
 (sq 6 [oo 78 (kf 1 10),oo 79 (kl 1 78),om 80 12,oo 81 (ka 84 [.t 79,.t 80]),oo 82 (.un .not (.t 81)),om 77 82]
 (.cond (.t 77) (sq 1 [oo 4 (km 6)]
 .ret)
 .skip)))))))))))
 (li 83 53))))))
 (sq 1 [oo 4 (km 0)]
 .ret)))))))))),[.t 4],true,false,false,false⟩
def i57:IFun:= ⟨19,(sq 1 [oo 4 (km 0)]
 (.seq (sq 3 [om 6 0,oo 7 (kn 6),oo 8 (km 0)]
 (.block 0 (.loop (lh 9 8 7 0
 (.seq (.block 1 (sq 2 [om 10 8,om 5 10]
 (sq 6 [om 11 1,om 12 0,om 13 5,oo 14 (ki 3 12 13),oo 15 (kL 3 14),oo 16 (.call (.o (.t 11)) [.t 15])]
 (.cond (.t 16) (sq 2 [om 17 5,om 4 17]
 .ret)
 .skip))))
 (li 18 8))))))
 (sq 1 [oo 4 (km (-1))]
 .ret))),[.t 4],false,true,false,false⟩
def i58:IFun:= ⟨8,(sq 2 [oo 2 (kx 0 0),oo 3 kF]
 (sq 5 [oo 4 (kf 0 2),oo 5 (kl 1 4),oo 6 (kl 1 1),oo 7 (kb .eql 5 6),om 3 7]
 .ret)),[.t 3],false,true,false,false⟩
def i59:IFun:= ⟨9,(sq 1 [oo 4 kF]
 (sq 5 [om 5 0,om 6 1,oo 7 (ka 57 [.t 5,.t 6]),oo 8 (kc .geq 7 0),om 4 8]
 .ret)),[.t 4],false,true,false,false⟩
def i60:IFun:= ⟨8,(sq 2 [oo 2 (kx 0 0),oo 3 kF]
 (sq 5 [oo 4 (kl 1 1),oo 5 (kL 3 2),oo 6 (.call (.o (.t 4)) [.t 5]),oo 7 (.un .not (.t 6)),om 3 7]
 .ret)),[.t 3],false,true,false,false⟩
def i61:IFun:= ⟨8,(sq 1 [oo 2 (.mv (.c .nilS))]
 (.seq (sq 2 [om 3 0,oo 4 (.eqNil false 0 (.t 3))]
 (.cond (.t 4) (sq 1 [oo 2 (.mv (.c .nilS))]
 .ret)
 .skip))
 (sq 4 [oo 5 (.mkSl 0 1 false false [.d (.str [])] 0 []),om 6 0,oo 7 (.append 2 1 false 16 (.t 5) (.t 6)),om 2 7]
 .ret))),[.t 2],true,false,false,true⟩
def i62:IFun:= ⟨16,(sq 1 [oo 2 kF]
 (sq 14 [om 3 0,oo 4 (.len true (.t 3)),oo 5 (kc .gtr 4 0),om 6 5,ot 7 (.mv (.t 0)) 6,ot 8 (.len true (.t 7)) 6,ot 9 (kc .leq 8 8) 6,oo 10 (.pick (.t 6) (.t 9) cf),om 11 10,ot 12 (.mv (.t 0)) 11,ot 13 (ka 90 [.t 12,.c (.d (.str [97,98,99,100,101,102,103,104,105,106,107,108,109,110,111,112,113,114,115,116,117,118,119,120,121,122]))]) 11,ot 14 (.bin .eql (.t 13) (.c (.d (.str [])))) 11,oo 15 (.pick (.t 11) (.t 14) cf),om 2 15]
 .ret)),[.t 2],true,false,false,false⟩
def i63:IFun:= ⟨21,(sq 1 [oo 4 (.mv (.c .nilS))]
 (sq 1 [oo 5 (.mv (.c .nilS))]
 (.seq (sq 2 [om 7 1,oo 8 (km 0)]
 (.block 0 (.loop (lh 9 8 7 0
 (.seq (.block 1 (sq 2 [om 10 8,om 6 10]
 (.reg 9 [om 11 5,om 12 0,om 13 6,oo 14 (kb .add 12 13),oo 15 (.indexS (.c (.d (.str [97,98,99,100,101,102,103,104]))) (.t 14)),oo 16 (.convS (.t 15)),oo 17 (.mkSl 6 1 false true [.d (.str [])] 1 [(0,.t 16)]),oo 18 (.append 7 1 false 16 (.t 11) (.t 17)),om 5 18])))
 (li 19 8))))))
 (sq 2 [om 20 5,om 4 20]
 .ret)))),[.t 4],false,false,true,false⟩
def i64:IFun:= ⟨26,(sq 4 [oo 3 (kx 0 0),oo 4 (kx 1 1),oo 6 (.alloc 2 [.nilS,.nilS]),oo 7 (km 0)]
 (sq 1 [oo 8 (.alloc 0 [.nilS,.nilS])]
 (sq 8 [oo 12 (kL 2 3),oo 13 (kL 2 4),oo 14 (ka 46 [.t 12,.t 13]),om 11 14,oo 15 (ke 0 11),oo 16 (ke 1 11),om 9 15,om 10 16]
 (.seq (sq 2 [om 17 10,oo 18 (kc .neq 17 0)]
 (.cond (.t 18) (sq 4 [oo 19 (kL 2 8),om 20 10,os (ks 2 6 19),om 7 20]
 .ret)
 .skip))
 (sq 7 [om 21 2,om 22 9,oo 23 (.call (.o (.t 21)) [.t 22]),oo 24 (ke 0 23),oo 25 (ke 1 23),os (ks 2 6 24),om 7 25]
 .ret))))),[.cell 6 2 true,.t 7],false,false,true,false⟩
def i65:IFun:= ⟨21,(sq 3 [oo 1 (kx 0 0),oo 2 (.alloc 1 [.nilS,.nilS]),oo 3 (km 0)]
 (.seq (sq 5 [oo 6 (kl 1 1),oo 7 (ka 23 [.t 6]),oo 8 (.iaddrS 1 (.t 7) (ci 0)),oo 9 (kl 1 8),oo 10 (.un .not (.t 9))]
 (.cond (.t 10) (sq 3 [oo 11 (.build [.nilS,.nilS] []),os (ks 2 2 11),oo 3 (km 6)]
 .ret)
 .skip))
 (sq 8 [oo 13 (kl 1 1),oo 14 (.mkf 92 [] [.t 1]),oo 15 (ka 91 [.t 13,.t 14]),om 12 15,oo 16 (ke 0 12),oo 17 (ke 1 12),om 4 16,om 5 17]
 (sq 5 [om 18 4,om 19 5,oo 20 (.build [.nilS,.nilS] [(0,1,.t 18),(1,1,.t 19)]),os (ks 2 2 20),oo 3 (km 0)]
 .ret)))),[.cell 2 2 true,.t 3],false,false,true,false⟩
def i66:IFun:= ⟨26,(sq 4 [oo 3 (kx 0 0),oo 4 (kx 1 1),oo 6 (.alloc 2 [.nilS,.nilS]),oo 7 (km 0)]
 (sq 1 [oo 8 (.alloc 0 [.nilS,.nilS])]
 (sq 8 [oo 12 (kL 2 3),oo 13 (kL 2 4),oo 14 (ka 46 [.t 12,.t 13]),om 11 14,oo 15 (ke 0 11),oo 16 (ke 1 11),om 9 15,om 10 16]
 (.seq (sq 2 [om 17 10,oo 18 (kc .neq 17 0)]
 (.cond (.t 18) (sq 4 [oo 19 (kL 2 8),om 20 10,os (ks 2 6 19),om 7 20]
 .ret)
 .skip))
 (sq 7 [om 21 2,om 22 9,oo 23 (.call (.o (.t 21)) [.t 22]),oo 24 (ke 0 23),oo 25 (ke 1 23),os (ks 2 6 24),om 7 25]
 .ret))))),[.cell 6 2 true,.t 7],false,false,true,false⟩
def i67:IFun:= ⟨20,(sq 3 [oo 1 (kx 0 0),oo 2 (.alloc 1 [.nilS,.nilS]),oo 3 (km 0)]
 (.seq (sq 4 [oo 6 (kl 1 1),oo 7 (ka 23 [.t 6]),oo 8 (.iaddrS 1 (.t 7) (ci 0)),oo 9 (kl 1 8)]
 (.cond (.t 9) (sq 3 [oo 10 (.build [.nilS,.nilS] []),os (ks 2 2 10),oo 3 (km 6)]
 .ret)
 .skip))
 (sq 8 [oo 12 (kl 1 1),oo 13 (.mkf 94 [] [.t 1]),oo 14 (ka 93 [.t 12,.t 13]),om 11 14,oo 15 (ke 0 11),oo 16 (ke 1 11),om 4 15,om 5 16]
 (sq 5 [om 17 4,om 18 5,oo 19 (.build [.nilS,.nilS] [(0,1,.t 17),(1,1,.t 18)]),os (ks 2 2 19),oo 3 (km 0)]
 .ret)))),[.cell 2 2 true,.t 3],false,false,true,false⟩
def i68:IFun:= ⟨32,(sq 1 [oo 6 kF]
 (.seq (sq 5 [om 10 0,oo 11 (kn 10),om 12 1,oo 13 (kn 12),oo 14 (kb .neq 11 13)]
 (.cond (.t 14) (sq 1 [oo 6 kF]
 .ret)
 .skip))
 (.seq (sq 3 [om 15 0,oo 16 (kn 15),oo 17 (km 0)]
 (.block 0 (.loop (lh 18 17 16 0
 (.seq (.block 1 (sq 5 [om 19 17,oo 20 (ki 1 15 17),oo 21 (kl 1 20),om 7 19,om 8 21]
 (sq 5 [om 22 1,om 23 7,oo 24 (ki 1 22 23),oo 25 (kl 1 24),om 9 25]
 (sq 5 [om 26 2,om 27 8,om 28 9,oo 29 (.call (.o (.t 26)) [.t 27,.t 28]),oo 30 (.un .not (.t 29))]
 (.cond (.t 30) (sq 1 [oo 6 kF]
 .ret)
 .skip)))))
 (li 31 17))))))
 (sq 1 [oo 6 kT]
 .ret)))),[.t 6],false,true,false,false⟩
def i69:IFun:= ⟨8,(sq 1 [oo 4 kF]
 (sq 4 [om 5 0,om 6 1,oo 7 (ka 41 [.t 5,.t 6]),om 4 7]
 .ret)),[.t 4],true,false,false,false⟩
def i70:IFun:= ⟨47,(sq 3 [oo 2 (kx 0 0),oo 3 (kx 1 1),oo 4 (km 0)]
 (.seq (sq 3 [oo 10 (kL 2 2),oo 11 (ka 32 [.t 10]),om 5 11]
 (sq 2 [om 12 5,oo 13 (kc .neq 12 0)]
 (.cond (.t 13) (sq 2 [om 14 5,om 4 14]
 .ret)
 .skip)))
 (sq 6 [oo 15 (kL 2 2),oo 16 (.build [.nilS,.nilS] [(0,2,.t 15)]),oo 17 (kf 0 3),oo 18 (kl 1 17),oo 19 (ka 33 [.t 16,.t 18]),om 6 19]
 (.seq (.block 0 (sq 3 [om 21 6,oo 22 (kc .lss 21 0),om 20 22]
 (.cond (.t 20) (sq 1 [oo 4 (km 1)]
 .ret)
 (sq 11 [oo 24 (kf 1 3),oo 25 (kl 1 24),oo 26 (kn 25),oo 27 (kf 0 2),oo 28 (kl 1 27),om 29 6,oo 30 (ki 3 28 29),oo 31 (kf 1 30),oo 32 (kl 1 31),oo 33 (kb .neq 26 32),om 23 33]
 (.cond (.t 23) (sq 1 [oo 4 (km 2)]
 .ret)
 .skip)))))
 (.seq (sq 4 [oo 34 (kf 1 3),oo 35 (kl 1 34),oo 36 (kn 35),oo 37 (km 0)]
 (.block 1 (.loop (lh 38 37 36 1
 (.seq (.block 2 (sq 4 [oo 39 (ki 2 35 37),oo 40 (kL 2 39),oo 8 (.alloc 2 [.nilS,.d (.int .i64 0)]),os (ks 2 8 40)]
 (sq 3 [oo 41 (kL 2 8),oo 42 (ka 95 [.t 41]),om 9 42]
 (sq 2 [om 43 9,oo 44 (kc .neq 43 0)]
 (.cond (.t 44) (sq 2 [om 45 9,om 4 45]
 .ret)
 .skip)))))
 (li 46 37))))))
 (sq 1 [oo 4 (km 0)]
 .ret)))))),[.t 4],true,false,false,false⟩
def i71:IFun:= ⟨17,(sq 1 [oo 6 kF]
 (sq 11 [om 7 0,oo 8 (.nilck (.t 7)),oo 9 (kf 3 8),oo 10 (kl 1 9),om 11 1,oo 12 (ki 4 10 11),oo 13 (kf 0 12),oo 14 (kl 1 13),om 15 2,oo 16 (kb .eql 14 15),om 6 16]
 .ret)),[.t 6],false,true,true,false⟩
def i72:IFun:= ⟨37,(sq 2 [oo 3 (kx 0 0),oo 4 (km 0)]
 (sq 4 [oo 8 (kL 2 3),oo 9 (ka 73 [.t 8]),oo 5 (.alloc 2 [.d (.str []),.d (.str []),.d (.str []),.d (.str [])]),os (ks 4 5 9)]
 (sq 8 [oo 11 (kl 1 1),oo 12 (kL 4 5),oo 13 (.lookup 153 true [.s,.s,.s,.s] true (.d (.int .i64 0)) (.t 11) (.t 12)),om 10 13,oo 14 (ke 0 10),oo 15 (ke 1 10),om 6 14,om 7 15]
 (.seq (sq 2 [om 16 7,oo 17 (.un .not (.t 16))]
 (.cond (.t 17) (sq 6 [oo 18 (kl 1 2),oo 19 (.nilck (.t 18)),oo 20 (kf 2 19),oo 21 (kl 1 20),oo 22 (kn 21),om 6 22]
 (sq 4 [oo 23 (kl 1 1),oo 24 (kL 4 5),om 25 6,os (.mapUpd 153 true [.s,.s,.s,.s] (.t 23) (.t 24) (.t 25))]
 (.reg 11 [oo 26 (kl 1 2),oo 27 (kl 1 2),oo 28 (.nilck (.t 27)),oo 29 (kf 2 28),oo 30 (kl 1 29),oo 31 (kL 2 3),ok 32 (.mkSl 6 2 true true [.d (.str []),.nilS] 1 [(0,.t 31)]) [29,2,2],ok 33 (.append 7 2 true 40 (.t 30) (.t 32)) [2],oo 34 (.nilck (.t 26)),oo 35 (kf 2 34),os (ks 1 35 33)])))
 .skip))
 (sq 2 [om 36 6,om 4 36]
 .ret))))),[.t 4],false,false,true,false⟩
def i73:IFun:= ⟨24,(sq 2 [oo 1 (kx 0 0),oo 2 (.alloc 1 [.d (.str []),.d (.str []),.d (.str []),.d (.str [])])]
 (sq 5 [oo 6 (kf 0 1),oo 7 (kl 1 6),oo 8 (.build [.d (.str []),.d (.str []),.d (.str []),.d (.str [])] [(0,1,.t 7)]),oo 3 (.alloc 3 [.d (.str []),.d (.str []),.d (.str []),.d (.str [])]),os (ks 4 3 8)]
 (.seq (sq 4 [oo 9 (kf 1 1),oo 10 (kl 1 9),oo 11 (kn 10),oo 12 (km 0)]
 (.block 0 (.loop (lh 13 12 11 0
 (.seq (.block 1 (sq 6 [om 14 12,oo 15 (ki 2 10 12),oo 16 (kL 2 15),oo 5 (.alloc 3 [.nilS,.d (.int .i64 0)]),om 4 14,os (ks 2 5 16)]
 (.reg 6 [om 17 4,oo 18 (kL 2 5),oo 19 (ka 96 [.t 18]),oo 20 (kf 1 3),oo 21 (.iaddrA 3 1 (.t 20) (.t 17)),os (ks 1 21 19)])))
 (li 22 12))))))
 (sq 2 [oo 23 (kL 4 3),os (ks 4 2 23)]
 .ret)))),[.cell 2 4 true],true,false,false,false⟩
def i74:IFun:= ⟨31,(sq 2 [oo 1 (kx 0 0),oo 2 (.alloc 1 [.d (.str []),.nilS])]
 (sq 5 [oo 8 (kf 0 1),oo 9 (kl 1 8),oo 10 (.build [.d (.str []),.nilS] [(0,1,.t 9)]),oo 3 (.alloc 3 [.d (.str []),.nilS]),os (ks 2 3 10)]
 (.seq (sq 4 [oo 11 (kf 1 1),oo 12 (kl 1 11),oo 13 (kn 12),oo 14 (km 0)]
 (.block 0 (.loop (lh 15 14 13 0
 (.seq (.block 1 (sq 4 [oo 16 (ki 2 12 14),oo 17 (kL 2 16),oo 5 (.alloc 2 [.nilS,.d (.int .i64 0)]),os (ks 2 5 17)]
 (sq 8 [oo 19 (kL 2 5),oo 20 (ka 97 [.t 19]),om 18 20,oo 21 (ke 0 18),oo 22 (ke 1 18),oo 6 (.alloc 5 [.nilS,.d (.int .i64 0)]),os (ks 2 6 21),om 7 22]
 (.reg 7 [oo 23 (kf 1 3),oo 24 (kl 1 23),oo 25 (kL 2 6),oo 26 (.mkSl 3 2 true true [.nilS,.d (.int .i64 0)] 1 [(0,.t 25)]),oo 27 (.append 4 2 true 32 (.t 24) (.t 26)),oo 28 (kf 1 3),os (ks 1 28 27)]))))
 (li 29 14))))))
 (sq 2 [oo 30 (kL 2 3),os (ks 2 2 30)]
 .ret)))),[.cell 2 2 true],true,false,true,false⟩
def i75:IFun:= ⟨6,(sq 3 [oo 2 (kx 0 0),oo 3 (kx 1 1),oo 4 (.mv (.c .nilF))]
 (sq 2 [oo 5 (.mkf 98 [] [.t 2,.t 3]),om 4 5]
 .ret)),[.t 4],false,false,true,false⟩
def i76:IFun:= ⟨13,(sq 1 [oo 2 kF]
 (.seq (sq 3 [om 5 0,oo 6 (kn 5),oo 7 (km 0)]
 (.block 0 (.loop (lh 8 7 6 0
 (.seq (.block 1 (sq 3 [oo 9 (ki 1 5 7),oo 10 (kl 1 9),om 4 10]
 (sq 1 [om 11 4]
 (.cond (.t 11) (sq 1 [oo 2 kT]
 .ret)
 .skip))))
 (li 12 7))))))
 (sq 1 [oo 2 kF]
 .ret))),[.t 2],true,false,false,false⟩
def i77:IFun:= ⟨14,(sq 1 [oo 2 (km 0)]
 (sq 8 [om 6 0,oo 7 (ka 100 [.t 6,.c (.fn 101 [] [])]),om 5 7,oo 8 (ke 0 5),oo 9 (ke 1 5),oo 3 (.alloc 5 [.nilS,.d (.int .i64 0)]),os (ks 2 3 8),om 4 9]
 (.seq (sq 2 [om 10 4,oo 11 (.un .not (.t 10))]
 (.cond (.t 11) (sq 1 [oo 2 (km 0)]
 .ret)
 .skip))
 (sq 3 [oo 12 (kL 2 3),oo 13 (ka 95 [.t 12]),om 2 13]
 .ret)))),[.t 2],true,false,true,false⟩
def i78:IFun:= ⟨21,(sq 3 [oo 2 (kx 0 0),oo 3 (kx 1 1),oo 4 (km 0)]
 (.seq (sq 6 [oo 6 (kf 0 2),oo 7 (kl 1 6),oo 8 (kf 0 3),oo 9 (kl 1 8),oo 10 (ka 102 [.t 7,.t 9]),om 5 10]
 (sq 2 [om 11 5,oo 12 (kc .neq 11 0)]
 (.cond (.t 12) (sq 2 [om 13 5,om 4 13]
 .ret)
 .skip)))
 (sq 8 [oo 14 (kf 1 2),oo 15 (kl 1 14),oo 16 (kn 15),oo 17 (kf 1 3),oo 18 (kl 1 17),oo 19 (kn 18),oo 20 (ka 103 [.t 16,.t 19]),om 4 20]
 .ret))),[.t 4],true,false,false,false⟩
def i79:IFun:= ⟨27,(sq 2 [oo 3 (kx 0 1),oo 4 kF]
 (sq 10 [om 8 0,oo 9 (kL 2 3),oo 10 (ka 104 [.t 8,.t 9]),om 7 10,oo 11 (ke 0 7),oo 12 (ke 1 7),oo 5 (.alloc 6 [.d (.str []),.nilS]),oo 6 (.alloc 7 [.d (.str []),.nilS]),os (ks 2 5 11),os (ks 2 6 12)]
 (sq 15 [oo 13 (kf 0 5),oo 14 (kl 1 13),oo 15 (kf 0 6),oo 16 (kl 1 15),oo 17 (kb .neq 14 16),om 18 17,og 19 (kf 1 5) 18,og 20 (kl 1 19) 18,og 21 (kn 20) 18,og 22 (kf 1 6) 18,og 23 (kl 1 22) 18,og 24 (kn 23) 18,og 25 (kb .neq 21 24) 18,oo 26 (kp 18 25),om 4 26]
 .ret))),[.t 4],false,true,true,false⟩
def i80:IFun:= ⟨4,(sq 2 [oo 1 (kx 0 0),oo 2 (.mv (.c .nilF))]
 (sq 2 [oo 3 (.mkf 105 [] [.t 1]),om 2 3]
 .ret)),[.t 2],false,false,true,false⟩
def i81:IFun:= ⟨18,(sq 2 [oo 1 (kx 0 0),oo 2 kF]
 (sq 16 [oo 3 (kf 1 1),oo 4 (kl 1 3),oo 5 (kn 4),oo 6 (kc .leq 5 4),om 7 6,ot 8 (kf 0 1) 7,ot 9 (kl 1 8) 7,ot 10 (.bin .neq (.t 9) (.c (.d (.str [])))) 7,ot 11 (.mv (.t 10)) 7,og 12 (kf 1 1) 11,og 13 (kl 1 12) 11,og 14 (kn 13) 11,og 15 (kc .eql 14 1) 11,ot 16 (kp 11 15) 7,oo 17 (.pick (.t 7) (.t 16) cf),om 2 17]
 .ret)),[.t 2],true,false,false,false⟩
def i82:IFun:= ⟨9,(sq 2 [oo 3 (kx 0 1),oo 4 kF]
 (sq 5 [om 5 0,oo 6 (.mkf 108 [] [.t 3]),oo 7 (ka 87 [.t 5,.t 6]),oo 8 (.un .not (.t 7)),om 4 8]
 .ret)),[.t 4],false,true,false,false⟩
def i83:IFun:= ⟨5,(sq 1 [oo 2 kF]
 (sq 3 [om 3 0,oo 4 (ka 84 [.t 3,.c (.fn 62 [] [])]),om 2 4]
 .ret)),[.t 2],true,false,false,false⟩
def i84:IFun:= ⟨9,(sq 2 [oo 3 (kx 0 1),oo 4 kF]
 (sq 5 [om 5 0,oo 6 (.mkf 110 [] [.t 3]),oo 7 (ka 109 [.t 5,.t 6]),oo 8 (.un .not (.t 7)),om 4 8]
 .ret)),[.t 4],false,true,false,false⟩
def i85:IFun:= ⟨18,(sq 2 [oo 2 (kx 0 0),oo 3 kF]
 (sq 15 [oo 4 (kf 0 2),oo 5 (kl 1 4),oo 6 (.bin .eql (.t 5) (.c (.d (.str [])))),om 7 6,og 8 (kf 0 2) 7,og 9 (kl 1 8) 7,og 10 (ka 62 [.t 9]) 7,oo 11 (kp 7 10),om 12 11,ot 13 (kl 1 1) 12,ot 14 (kf 1 2) 12,ot 15 (kl 1 14) 12,ot 16 (.call (.o (.t 13)) [.t 15]) 12,oo 17 (.pick (.t 12) (.t 16) cf),om 3 17]
 .ret)),[.t 3],false,true,false,false⟩
def i86:IFun:= ⟨8,(sq 2 [oo 2 (kx 0 0),oo 3 kF]
 (sq 5 [oo 4 (kf 1 1),oo 5 (kl 1 4),oo 6 (.mkf 88 [] [.t 2]),oo 7 (ka 87 [.t 5,.t 6]),om 3 7]
 .ret)),[.t 3],false,true,false,false⟩
def i87:IFun:= ⟨9,(sq 1 [oo 4 kF]
 (sq 5 [om 5 0,om 6 1,oo 7 (ka 111 [.t 5,.t 6]),oo 8 (kc .geq 7 0),om 4 8]
 .ret)),[.t 4],false,true,false,false⟩
def i88:IFun:= ⟨8,(sq 2 [oo 2 (kx 0 0),oo 3 kF]
 (sq 5 [oo 4 (kf 1 2),oo 5 (kl 1 4),oo 6 (kl 1 1),oo 7 (ka 89 [.t 5,.t 6]),om 3 7]
 .ret)),[.t 3],false,true,false,false⟩
def i89:IFun:= ⟨9,(sq 1 [oo 4 kF]
 (sq 5 [om 5 0,om 6 1,oo 7 (ka 112 [.t 5,.t 6]),oo 8 (kc .geq 7 0),om 4 8]
 .ret)),[.t 4],true,false,false,false⟩
def i90:IFun:= ⟨43,(sq 1 [oo 4 (.mv (.c (.d (.str []))))]
 (.seq (sq 6 [om 7 0,oo 8 (.bin .eql (.t 7) (.c (.d (.str [])))),om 9 8,gm 10 1 9,og 11 (.bin .eql (.t 10) (.c (.d (.str [])))) 9,oo 12 (kp 9 11)]
 (.cond (.t 12) (sq 2 [om 13 0,om 4 13]
 .ret)
 .skip))
 (.seq (sq 8 [om 14 1,oo 15 (.len true (.t 14)),oo 16 (kc .eql 15 1),om 17 16,ot 18 (.mv (.t 1)) 17,ot 19 (.indexS (.t 18) (ci 0)) 17,ot 20 (.bin .lss (.t 19) (cb 128)) 17,oo 21 (.pick (.t 17) (.t 20) cf)]
 (.cond (.t 21) (sq 8 [om 22 0,om 23 1,oo 24 (.indexS (.t 23) (ci 0)),om 26 1,oo 27 (.indexS (.t 26) (ci 0)),oo 25 (ka 114 [.t 22,.t 24]),oo 28 (ka 113 [.t 25,.t 27]),om 4 28]
 .ret)
 .skip))
 (.seq (sq 8 [om 30 1,oo 31 (ka 115 [.t 30]),om 29 31,oo 32 (ke 0 29),oo 33 (ke 1 29),oo 5 (.alloc 5 (.replicate 256 (.d (.bool false)))),os (ks 256 5 32),om 6 33]
 (sq 1 [om 34 6]
 (.cond (.t 34) (sq 4 [om 35 0,oo 36 (ka 117 [.t 35,.t 5]),oo 37 (ka 116 [.t 36,.t 5]),om 4 37]
 .ret)
 .skip)))
 (sq 6 [om 38 0,om 39 1,oo 40 (ka 119 [.t 38,.t 39]),om 41 1,oo 42 (ka 118 [.t 40,.t 41]),om 4 42]
 .ret))))),[.t 4],true,false,false,false⟩
def i91:IFun:= ⟨69,(sq 2 [oo 4 (.mv (.c .nilS)),oo 5 (.mv (.c .nilS))]
 (sq 4 [oo 15 (.mkmap 0 3),os (.mapUpd 3 false [.i .i64] (.t 15) (ci 0) ct),om 16 15,om 6 16]
 (sq 2 [oo 17 (.mkSl 0 1 false true [.d (.int .i64 0)] 1 [(0,(ci 0))]),om 7 17]
 (sq 1 [oo 8 (.mv (.c .nilS))]
 (sq 1 [oo 9 (.mv (.c .nilS))]
 (.seq (sq 1 [oo 10 (km 0)]
 (.block 0 (.loop (.seq (sq 4 [om 18 10,om 19 7,oo 20 (kn 19),oo 21 (kb .lss 18 20)]
 (.cond (.t 21) .skip
 (.exit 0)))
 (.seq (.block 1 (sq 11 [om 25 1,om 26 7,om 27 10,oo 28 (ki 1 26 27),oo 29 (kl 1 28),oo 30 (.call (.o (.t 25)) [.t 29]),om 24 30,oo 31 (ke 0 24),oo 32 (ke 1 24),om 11 31,om 12 32]
 (sq 19 [om 33 8,om 34 0,oo 35 (.nilck (.t 34)),oo 36 (kf 2 35),oo 37 (kl 1 36),om 38 7,om 39 10,oo 40 (ki 1 38 39),oo 41 (kl 1 40),oo 42 (ki 2 37 41),oo 43 (kL 2 42),om 46 9,om 47 12,oo 44 (.mkSl 13 2 true true [.d (.str []),.nilS] 1 [(0,.t 43)]),oo 45 (.append 14 2 true 40 (.t 33) (.t 44)),ok 48 (.mkSl 15 1 false true [.d (.int .i64 0)] 1 [(0,.t 47)]) [42,40,36],oo 49 (.append 16 1 false 8 (.t 46) (.t 48)),om 8 45,om 9 49]
 (sq 3 [om 50 11,oo 51 (kn 50),oo 52 (km 0)]
 (.block 2 (.loop (lh 53 52 51 2
 (.seq (.block 3 (sq 3 [oo 54 (ki 1 50 52),oo 55 (kl 1 54),om 14 55]
 (sq 4 [om 56 6,om 57 14,oo 58 (.lookup 3 false [.i .i64] false (.d (.bool false)) (.t 56) (.t 57)),oo 59 (.un .not (.t 58))]
 (.cond (.t 59) (sq 3 [om 60 6,om 61 14,os (.mapUpd 3 false [.i .i64] (.t 60) (.t 61) ct)]
 (.reg 5 [om 62 7,om 63 14,oo 64 (.mkSl 2 1 false true [.d (.int .i64 0)] 1 [(0,.t 63)]),oo 65 (.append 3 1 false 8 (.t 62) (.t 64)),om 7 65]))
 .skip))))
 (li 66 52)))))))))
 (.reg 3 [om 22 10,oo 23 (kc .add 22 1),om 10 23]))))))
 (sq 4 [om 67 8,om 68 9,om 4 67,om 5 68]
 .ret))))))),[.t 4,.t 5],false,false,true,false⟩
def i92:IFun:= ⟨33,(sq 2 [oo 3 (.mv (.c .nilS)),oo 4 (km 0)]
 (sq 25 [oo 6 (kl 1 1),oo 7 (.nilck (.t 6)),oo 8 (kf 3 7),oo 9 (kl 1 8),oo 10 (kl 1 1),oo 11 (.nilck (.t 10)),oo 12 (kf 3 11),oo 13 (kl 1 12),om 14 0,oo 15 (ki 4 13 14),oo 16 (kf 2 15),oo 17 (kl 1 16),oo 18 (kl 1 1),oo 19 (.nilck (.t 18)),oo 20 (kf 4 19),oo 21 (kl 1 20),om 22 0,oo 23 (ki 1 21 22),oo 24 (kl 1 23),oo 25 (ki 1 17 24),oo 26 (kl 1 25),oo 27 (ki 4 9 26),oo 28 (kL 4 27),oo 5 (.alloc 23 [.d (.int .i64 0),.d (.int .i64 0),.nilS,.d (.int .i64 0)]),os (ks 4 5 28)]
 (sq 6 [oo 29 (kf 2 5),oo 30 (kl 1 29),oo 31 (kf 3 5),oo 32 (kl 1 31),om 3 30,om 4 32]
 .ret))),[.t 3,.t 4],false,false,true,false⟩
def i93:IFun:= ⟨69,(sq 2 [oo 4 (.mv (.c .nilS)),oo 5 (.mv (.c .nilS))]
 (sq 4 [oo 15 (.mkmap 0 3),os (.mapUpd 3 false [.i .i64] (.t 15) (ci 0) ct),om 16 15,om 6 16]
 (sq 2 [oo 17 (.mkSl 0 1 false true [.d (.int .i64 0)] 1 [(0,(ci 0))]),om 7 17]
 (sq 1 [oo 8 (.mv (.c .nilS))]
 (sq 1 [oo 9 (.mv (.c .nilS))]
 (.seq (sq 1 [oo 10 (km 0)]
 (.block 0 (.loop (.seq (sq 4 [om 18 10,om 19 7,oo 20 (kn 19),oo 21 (kb .lss 18 20)]
 (.cond (.t 21) .skip
 (.exit 0)))
 (.seq (.block 1 (sq 11 [om 25 1,om 26 7,om 27 10,oo 28 (ki 1 26 27),oo 29 (kl 1 28),oo 30 (.call (.o (.t 25)) [.t 29]),om 24 30,oo 31 (ke 0 24),oo 32 (ke 1 24),om 11 31,om 12 32]
 (sq 19 [om 33 8,om 34 0,oo 35 (.nilck (.t 34)),oo 36 (kf 2 35),oo 37 (kl 1 36),om 38 7,om 39 10,oo 40 (ki 1 38 39),oo 41 (kl 1 40),oo 42 (ki 2 37 41),oo 43 (kL 2 42),om 46 9,om 47 12,oo 44 (.mkSl 13 2 true true [.d (.str []),.nilS] 1 [(0,.t 43)]),oo 45 (.append 14 2 true 40 (.t 33) (.t 44)),ok 48 (.mkSl 15 1 false true [.nilS] 1 [(0,.t 47)]) [42,40,36],oo 49 (.append 16 1 false 24 (.t 46) (.t 48)),om 8 45,om 9 49]
 (sq 3 [om 50 11,oo 51 (kn 50),oo 52 (km 0)]
 (.block 2 (.loop (lh 53 52 51 2
 (.seq (.block 3 (sq 3 [oo 54 (ki 1 50 52),oo 55 (kl 1 54),om 14 55]
 (sq 4 [om 56 6,om 57 14,oo 58 (.lookup 3 false [.i .i64] false (.d (.bool false)) (.t 56) (.t 57)),oo 59 (.un .not (.t 58))]
 (.cond (.t 59) (sq 3 [om 60 6,om 61 14,os (.mapUpd 3 false [.i .i64] (.t 60) (.t 61) ct)]
 (.reg 5 [om 62 7,om 63 14,oo 64 (.mkSl 2 1 false true [.d (.int .i64 0)] 1 [(0,.t 63)]),oo 65 (.append 3 1 false 8 (.t 62) (.t 64)),om 7 65]))
 .skip))))
 (li 66 52)))))))))
 (.reg 3 [om 22 10,oo 23 (kc .add 22 1),om 10 23]))))))
 (sq 4 [om 67 8,om 68 9,om 4 67,om 5 68]
 .ret))))))),[.t 4,.t 5],false,false,true,false⟩
def i94:IFun:= ⟨75,(sq 2 [oo 3 (.mv (.c .nilS)),oo 4 (.mv (.c .nilS))]
 (sq 8 [oo 11 (kl 1 1),oo 12 (.nilck (.t 11)),oo 13 (kf 0 12),oo 14 (kf 1 13),oo 15 (kl 1 14),oo 16 (kn 15),oo 17 (.mkslice 6 1 false 8 [.d (.int .i64 0)] (.t 16) (.t 16)),om 5 17]
 (.seq (sq 3 [om 18 5,oo 19 (kn 18),oo 20 (km 0)]
 (.block 0 (.loop (lh 21 20 19 0
 (.seq (.block 1 (sq 2 [om 22 20,om 6 22]
 (.reg 4 [om 23 5,om 24 6,oo 25 (ki 1 23 24),os (.store 1 (.t 25) (ci (-1)))])))
 (li 26 20))))))
 (sq 1 [oo 7 (.mv (.c .nilS))]
 (.seq (sq 10 [oo 27 (kl 1 1),oo 28 (.nilck (.t 27)),oo 29 (kf 3 28),oo 30 (kl 1 29),om 31 0,oo 32 (ki 4 30 31),oo 33 (kf 2 32),oo 34 (kl 1 33),oo 35 (kn 34),oo 36 (km 0)]
 (.block 2 (.loop (lh 37 36 35 2
 (.seq (.block 3 (sq 3 [oo 38 (ki 1 34 36),oo 39 (kl 1 38),om 9 39]
 (sq 9 [oo 40 (kl 1 1),oo 41 (.nilck (.t 40)),oo 42 (kf 3 41),oo 43 (kl 1 42),om 44 9,oo 45 (ki 4 43 44),oo 46 (kL 4 45),oo 10 (.alloc 7 [.d (.int .i64 0),.d (.int .i64 0),.nilS,.d (.int .i64 0)]),os (ks 4 10 46)]
 (sq 12 [om 47 5,oo 48 (kf 3 10),oo 49 (kl 1 48),oo 50 (kl 1 1),oo 51 (.nilck (.t 50)),oo 52 (kf 4 51),oo 53 (kl 1 52),om 54 9,oo 55 (ki 1 53 54),oo 56 (kl 1 55),oo 57 (ki 1 47 49),os (ks 1 57 56)]
 (.reg 15 [om 58 7,oo 59 (kf 2 10),oo 60 (kl 1 59),oo 61 (kl 1 1),oo 62 (.nilck (.t 61)),oo 63 (kf 4 62),oo 64 (kl 1 63),om 65 9,oo 66 (ki 1 64 65),oo 67 (kl 1 66),oo 68 (ki 1 60 67),oo 69 (kl 1 68),oo 70 (.mkSl 12 1 false true [.d (.int .i64 0)] 1 [(0,.t 69)]),oo 71 (.append 13 1 false 8 (.t 58) (.t 70)),om 7 71])))))
 (li 72 36))))))
 (sq 4 [om 73 7,om 74 5,om 3 73,om 4 74]
 .ret)))))),[.t 3,.t 4],false,false,true,false⟩
def i95:IFun:= ⟨40,(sq 2 [oo 1 (kx 0 0),oo 2 (km 0)]
 (sq 3 [oo 4 (.mkf 120 [] [.t 1]),oo 3 (.alloc 1 [.nilF]),os (ks 1 3 4)]
 (.seq (.block 0 (sq 17 [oo 6 (kf 0 1),oo 7 (kl 1 6),oo 8 (kn 7),oo 9 (kc .lss 8 1),om 10 9,og 11 (kf 0 1) 10,og 12 (kl 1 11) 10,og 13 (kn 12) 10,og 14 (kc .gtr 13 60) 10,oo 15 (kp 10 14),om 16 15,og 17 (kf 0 1) 16,og 18 (kl 1 17) 16,og 19 (ka 121 [.t 18,.c (.fn 122 [] [])]) 16,og 20 (.un .not (.t 19)) 16,oo 21 (kp 16 20),om 5 21]
 (.cond (.t 5) (sq 1 [oo 2 (km 2)]
 .ret)
 (sq 5 [oo 23 (kf 0 1),oo 24 (kl 1 23),oo 25 (ka 121 [.t 24,.c (.fn 123 [] [])]),oo 26 (.un .not (.t 25)),om 22 26]
 (.cond (.t 22) (sq 1 [oo 2 (km 4)]
 .ret)
 (sq 13 [oo 28 (kl 1 3),oo 29 (kf 1 1),oo 30 (kl 1 29),oo 31 (.call (.o (.t 28)) [.t 30]),oo 32 (.un .not (.t 31)),om 33 32,og 34 (kf 0 1) 33,og 35 (kl 1 34) 33,og 36 (.mkf 125 [] [.t 3]) 33,og 37 (ka 121 [.t 35,.t 36]) 33,og 38 (.un .not (.t 37)) 33,oo 39 (kp 33 38),om 27 39]
 (.cond (.t 27) (sq 1 [oo 2 (km 1)]
 .ret)
 .skip)))))))
 (sq 1 [oo 2 (km 0)]
 .ret)))),[.t 2],true,false,false,false⟩
def i96:IFun:= ⟨36,(sq 2 [oo 1 (kx 0 0),oo 2 (.mv (.c (.d (.str []))))]
 (sq 1 [oo 3 (.mv (.c (.d (.str []))))]
 (.seq (sq 4 [oo 8 (kf 0 1),oo 9 (kl 1 8),oo 10 (kn 9),oo 11 (km 0)]
 (.block 0 (.loop (lh 12 11 10 0
 (.seq (.block 1 (sq 4 [oo 13 (ki 2 9 11),oo 14 (kL 2 13),oo 5 (.alloc 2 [.d (.str []),.nilS]),os (ks 2 5 14)]
 (sq 5 [om 15 3,oo 16 (kf 0 5),oo 17 (kl 1 16),oo 18 (kb .add 15 17),om 3 18]
 (.seq (sq 4 [oo 19 (kf 1 5),oo 20 (kl 1 19),oo 21 (kn 20),oo 22 (km 0)]
 (.block 2 (.loop (lh 23 22 21 2
 (.seq (.block 3 (sq 3 [oo 24 (ki 1 20 22),oo 25 (kl 1 24),om 7 25]
 (.reg 6 [om 26 3,om 27 7,oo 28 (ka 127 [.t 27]),oo 29 (.bin .add (.c (.d (.str [44]))) (.t 28)),oo 30 (kb .add 26 29),om 3 30])))
 (li 31 22))))))
 (.reg 3 [om 32 3,oo 33 (.bin .add (.t 32) (.c (.d (.str [59])))),om 3 33])))))
 (li 34 11))))))
 (sq 2 [om 35 3,om 2 35]
 .ret)))),[.t 2],true,false,false,false⟩
def i97:IFun:= ⟨34,(sq 3 [oo 1 (kx 0 0),oo 2 (.alloc 1 [.nilS,.d (.int .i64 0)]),oo 3 (km 0)]
 (.seq (sq 4 [oo 8 (kL 2 1),oo 9 (.mkSl 1 2 true true [.nilS,.d (.int .i64 0)] 1 [(0,.t 8)]),oo 10 (ka 77 [.t 9]),om 4 10]
 (sq 2 [om 11 4,oo 12 (kc .neq 11 0)]
 (.cond (.t 12) (sq 4 [oo 13 (.build [.nilS,.d (.int .i64 0)] []),om 14 4,os (ks 2 2 13),om 3 14]
 .ret)
 .skip)))
 (sq 7 [oo 15 (kf 0 1),oo 16 (kl 1 15),oo 17 (kf 1 1),oo 18 (kl 1 17),oo 19 (.mkSl 4 1 false true [.d (.int .i64 0)] 1 [(0,.t 18)]),oo 20 (ka 128 [.t 16,.t 19]),om 5 20]
 (sq 9 [oo 22 (kf 0 1),oo 23 (kl 1 22),om 24 5,oo 25 (ka 129 [.t 23,.t 24]),om 21 25,oo 26 (ke 0 21),oo 27 (ke 1 21),om 6 26,om 7 27]
 (sq 8 [oo 28 (kf 0 1),oo 29 (kl 1 28),om 30 5,om 31 6,om 32 7,oo 33 (ka 130 [.t 29,.t 30,.t 31,.t 32]),os (ks 2 2 33),oo 3 (km 0)]
 .ret))))),[.cell 2 2 true,.t 3],true,false,true,false⟩
def i98:IFun:= ⟨38,(sq 7 [oo 7 (kl 1 1),oo 8 (.nilck (.t 7)),oo 9 (kf 0 8),oo 10 (kf 1 9),oo 11 (kl 1 10),oo 12 (kn 11),oo 13 (km 0)]
 (.block 0 (.loop (lh 14 13 12 0
 (.seq (.block 1 (sq 2 [om 15 13,om 4 15]
 (sq 15 [oo 17 (kl 1 1),oo 18 (.nilck (.t 17)),oo 19 (kf 0 18),oo 20 (kf 1 19),oo 21 (kl 1 20),om 22 4,oo 23 (ki 3 21 22),oo 24 (kL 3 23),oo 25 (kL 2 2),oo 26 (ka 99 [.t 24,.t 25]),om 16 26,oo 27 (ke 0 16),oo 28 (ke 1 16),om 5 27,om 6 28]
 (sq 8 [om 29 6,om 30 29,ot 31 (.mv (.t 0)) 30,ot 32 (.mv (.t 4)) 30,ot 33 (.mv (.t 5)) 30,ot 34 (.call (.o (.t 31)) [.t 32,.t 33]) 30,ot 35 (.un .not (.t 34)) 30,oo 36 (.pick (.t 30) (.t 35) cf)]
 (.cond (.t 36) .ret
 .skip)))))
 (li 37 13)))))),[],false,false,true,false⟩
def i99:IFun:= ⟨126,(sq 4 [oo 2 (kx 0 0),oo 3 (kx 1 1),oo 4 (.mv (.c .nilS)),oo 5 kF]
 (.seq (sq 5 [oo 20 (kf 0 2),oo 21 (kl 1 20),oo 22 (kf 0 3),oo 23 (kl 1 22),oo 24 (kb .neq 21 23)]
 (.cond (.t 24) (sq 2 [oo 4 (.mv (.c .nilS)),oo 5 kF]
 .ret)
 .skip))
 (sq 3 [oo 25 (.mkmap 0 9),oo 6 (.alloc 1 [.nilM]),os (ks 1 6 25)]
 (sq 2 [oo 26 (.mkf 131 [] [.t 6]),om 7 26]
 (.seq (sq 4 [oo 27 (kf 1 2),oo 28 (kl 1 27),oo 29 (kn 28),oo 30 (km 0)]
 (.block 0 (.loop (lh 31 30 29 0
 (.seq (.block 1 (sq 6 [om 32 30,oo 33 (ki 2 28 30),oo 34 (kL 2 33),oo 9 (.alloc 3 [.d (.str []),.nilS]),om 8 32,os (ks 2 9 34)]
 (sq 7 [oo 35 (kf 1 3),oo 36 (kl 1 35),om 37 8,oo 38 (ki 2 36 37),oo 39 (kL 2 38),oo 10 (.alloc 5 [.nilS,.d (.int .i64 0)]),os (ks 2 10 39)]
 (sq 8 [oo 40 (kf 0 10),oo 41 (kl 1 40),oo 42 (kf 1 10),oo 43 (kl 1 42),oo 44 (ki 2 41 43),oo 45 (kL 2 44),oo 11 (.alloc 6 [.d (.str []),.nilS]),os (ks 2 11 45)]
 (.seq (sq 3 [oo 46 (kf 0 9),oo 47 (kl 1 46),oo 48 (.bin .eql (.t 47) (.c (.d (.str []))))]
 (.cond (.t 48) (.seq (sq 8 [om 49 7,oo 50 (kf 1 9),oo 51 (kl 1 50),oo 52 (.iaddrS 1 (.t 51) (ci 0)),oo 53 (kl 1 52),oo 54 (kL 2 10),oo 55 (.call (.o (.t 49)) [.t 53,.t 54]),oo 56 (.un .not (.t 55))]
 (.cond (.t 56) (sq 2 [oo 4 (.mv (.c .nilS)),oo 5 kF]
 .ret)
 .skip))
 (.exit 1))
 .skip))
 (.seq (sq 14 [oo 57 (kf 0 9),oo 58 (kl 1 57),oo 59 (kf 0 11),oo 60 (kl 1 59),oo 61 (kb .neq 58 60),om 62 61,og 63 (kf 1 9) 62,og 64 (kl 1 63) 62,og 65 (kn 64) 62,og 66 (kf 1 11) 62,og 67 (kl 1 66) 62,og 68 (kn 67) 62,og 69 (kb .neq 65 68) 62,oo 70 (kp 62 69)]
 (.cond (.t 70) (sq 2 [oo 4 (.mv (.c .nilS)),oo 5 kF]
 .ret)
 .skip))
 (sq 4 [oo 71 (kf 1 9),oo 72 (kl 1 71),oo 73 (kn 72),oo 74 (km 0)]
 (.block 2 (.loop (lh 75 74 73 2
 (.seq (.block 3 (sq 5 [om 76 74,oo 77 (ki 1 72 74),oo 78 (kl 1 77),om 12 76,om 13 78]
 (sq 12 [om 79 7,om 80 13,oo 81 (kf 0 10),oo 82 (kl 1 81),oo 83 (kf 1 11),oo 84 (kl 1 83),om 85 12,oo 86 (ki 1 84 85),oo 87 (kl 1 86),oo 88 (.build [.nilS,.d (.int .i64 0)] [(0,1,.t 82),(1,1,.t 87)]),oo 89 (.call (.o (.t 79)) [.t 80,.t 88]),oo 90 (.un .not (.t 89))]
 (.cond (.t 90) (sq 2 [oo 4 (.mv (.c .nilS)),oo 5 kF]
 .ret)
 .skip))))
 (li 91 74))))))))))))
 (li 92 30))))))
 (sq 1 [oo 14 (.mv (.c .nilS))]
 (.seq (sq 4 [oo 93 (kf 2 2),oo 94 (kl 1 93),oo 95 (kn 94),oo 96 (km 0)]
 (.block 4 (.loop (lh 97 96 95 4
 (.seq (.block 5 (sq 4 [oo 98 (ki 2 94 96),oo 99 (kL 2 98),oo 16 (.alloc 2 [.d (.str []),.nilS]),os (ks 2 16 99)]
 (sq 5 [oo 100 (kf 0 16),oo 101 (kl 1 100),oo 102 (.build [.d (.str []),.nilS] [(0,1,.t 101)]),oo 17 (.alloc 3 [.d (.str []),.nilS]),os (ks 2 17 102)]
 (.seq (sq 4 [oo 103 (kf 1 16),oo 104 (kl 1 103),oo 105 (kn 104),oo 106 (km 0)]
 (.block 6 (.loop (lh 107 106 105 6
 (.seq (.block 7 (sq 3 [oo 108 (ki 1 104 106),oo 109 (kl 1 108),om 19 109]
 (.reg 9 [oo 110 (kf 1 17),oo 111 (kl 1 110),oo 112 (kl 1 6),om 113 19,oo 114 (.lookup 9 false [.s] false (.agg [.nilS,.d (.int .i64 0)]) (.t 112) (.t 113)),oo 115 (.mkSl 5 2 true true [.nilS,.d (.int .i64 0)] 1 [(0,.t 114)]),oo 116 (.append 6 2 true 32 (.t 111) (.t 115)),oo 117 (kf 1 17),os (ks 1 117 116)])))
 (li 118 106))))))
 (.reg 6 [om 119 14,oo 120 (kL 2 17),oo 121 (ka 74 [.t 120]),oo 122 (.mkSl 3 2 true true [.d (.str []),.nilS] 1 [(0,.t 121)]),oo 123 (.append 4 2 true 40 (.t 119) (.t 122)),om 14 123])))))
 (li 124 96))))))
 (sq 3 [om 125 14,om 4 125,oo 5 kT]
 .ret)))))))),[.t 4,.t 5],true,false,true,false⟩
def i100:IFun:= ⟨18,(sq 2 [oo 4 (.alloc 0 [.nilS,.d (.int .i64 0)]),oo 5 kF]
 (sq 1 [oo 6 (.alloc 0 [.nilS,.d (.int .i64 0)])]
 (sq 4 [om 8 0,om 9 1,oo 10 (ka 132 [.t 8,.t 9]),om 7 10]
 (.seq (sq 2 [om 11 7,oo 12 (kc .lss 11 0)]
 (.cond (.t 12) (sq 3 [oo 13 (kL 2 6),os (ks 2 4 13),oo 5 kF]
 .ret)
 .skip))
 (sq 6 [om 14 0,om 15 7,oo 16 (ki 2 14 15),oo 17 (kL 2 16),os (ks 2 4 17),oo 5 kT]
 .ret))))),[.cell 4 2 true,.t 5],false,true,false,false⟩
def i101:IFun:= ⟨6,(sq 2 [oo 1 (kx 0 0),oo 2 kF]
 (sq 4 [oo 3 (kL 2 1),oo 4 (ka 95 [.t 3]),oo 5 (kc .neq 4 0),om 2 5]
 .ret)),[.t 2],true,false,false,false⟩
def i104:IFun:= ⟨26,(sq 3 [oo 3 (kx 0 1),oo 4 (.alloc 1 [.d (.str []),.nilS]),oo 5 (.alloc 2 [.d (.str []),.nilS])]
 (sq 22 [om 6 0,oo 7 (.nilck (.t 6)),oo 8 (kf 0 7),oo 9 (kf 0 8),oo 10 (kf 0 9),oo 11 (kl 1 10),oo 12 (.iaddrA 2 1 (.t 3) (ci 0)),oo 13 (kl 1 12),oo 14 (ki 2 11 13),oo 15 (kL 2 14),om 16 0,oo 17 (.nilck (.t 16)),oo 18 (kf 0 17),oo 19 (kf 2 18),oo 20 (kf 0 19),oo 21 (kl 1 20),oo 22 (.iaddrA 2 1 (.t 3) (ci 1)),oo 23 (kl 1 22),oo 24 (ki 2 21 23),oo 25 (kL 2 24),⟨none,ks 2 4 15,none,[24,22,20]⟩,os (ks 2 5 25)]
 .ret)),[.cell 4 2 true,.cell 5 2 true],false,true,true,false⟩
def i105:IFun:= ⟨76,(sq 16 [oo 8 (kl 1 1),oo 9 (.nilck (.t 8)),oo 10 (kf 0 9),oo 11 (kf 0 10),oo 12 (kf 1 11),oo 13 (kl 1 12),oo 14 (kl 1 1),oo 15 (.nilck (.t 14)),oo 16 (kf 0 15),oo 17 (kf 2 16),oo 18 (kf 1 17),oo 19 (kl 1 18),oo 20 (.build [.d (.int .i64 0),.d (.int .i64 0)] [(0,1,.t 13),(1,1,.t 19)]),oo 21 (.build [.d (.int .i64 0),.d (.int .i64 0),.nilS] [(0,2,.t 20),(2,1,(.c .nilS))]),oo 22 (.mkSl 14 3 true true [.d (.int .i64 0),.d (.int .i64 0),.nilS] 1 [(0,.t 21)]),om 3 22]
 (sq 8 [oo 23 (.mkmap 0 130),om 24 3,oo 25 (.iaddrS 3 (.t 24) (ci 0)),oo 26 (kf 0 25),oo 27 (kL 2 26),os (.mapUpd 130 true [.i .i64,.i .i64] (.t 23) (.t 27) ct),om 28 23,om 4 28]
 (.block 0 (.loop (.seq (sq 3 [om 29 3,oo 30 (kn 29),oo 31 (kc .gtr 30 0)]
 (.cond (.t 31) .skip
 (.exit 0)))
 (.block 1 (sq 5 [om 32 3,oo 33 (.iaddrS 3 (.t 32) (ci 0)),oo 34 (kL 3 33),oo 5 (.alloc 3 [.d (.int .i64 0),.d (.int .i64 0),.nilS]),os (ks 3 5 34)]
 (sq 3 [om 35 3,oo 36 (.sliceL 3 (.t 35) (.some (ci 1)) .none),om 3 36]
 (.seq (sq 7 [om 37 0,oo 38 (kf 0 5),oo 39 (kL 2 38),oo 40 (kf 2 5),oo 41 (kl 1 40),oo 42 (.call (.o (.t 37)) [.t 39,.t 41]),oo 43 (.un .not (.t 42))]
 (.cond (.t 43) .ret
 .skip))
 (.seq (sq 4 [oo 44 (kl 1 1),oo 45 (kf 0 5),oo 46 (kL 2 45),oo 47 (ka 79 [.t 44,.t 46])]
 (.cond (.t 47) (.exit 1)
 .skip))
 (sq 6 [oo 48 (kl 1 1),oo 49 (kf 0 5),oo 50 (kL 2 49),oo 51 (ka 106 [.t 48,.t 50]),oo 52 (kn 51),oo 53 (km 0)]
 (.block 2 (.loop (lh 54 53 52 2
 (.seq (.block 3 (sq 6 [om 55 53,oo 56 (ki 2 51 53),oo 57 (kL 2 56),oo 7 (.alloc 3 [.d (.int .i64 0),.d (.int .i64 0)]),om 6 55,os (ks 2 7 57)]
 (sq 4 [om 58 4,oo 59 (kL 2 7),oo 60 (.lookup 130 true [.i .i64,.i .i64] false (.d (.bool false)) (.t 58) (.t 59)),oo 61 (.un .not (.t 60))]
 (.cond (.t 61) (sq 3 [om 62 4,oo 63 (kL 2 7),os (.mapUpd 130 true [.i .i64,.i .i64] (.t 62) (.t 63) ct)]
 (.reg 12 [om 64 3,oo 65 (kL 2 7),oo 66 (kf 2 5),oo 67 (kl 1 66),om 69 6,ok 68 (ka 107 [.t 67]) [7],ok 70 (.mkSl 6 1 false true [.d (.int .i64 0)] 1 [(0,.t 69)]) [66,7],ok 71 (.append 7 1 false 8 (.t 68) (.t 70)) [7],oo 72 (.build [.d (.int .i64 0),.d (.int .i64 0),.nilS] [(0,2,.t 65),(2,1,.t 71)]),oo 73 (.mkSl 9 3 true true [.d (.int .i64 0),.d (.int .i64 0),.nilS] 1 [(0,.t 72)]),oo 74 (.append 10 3 true 40 (.t 64) (.t 73)),om 3 74]))
 .skip))))
 (li 75 53)))))))))))))))),[],false,false,true,false⟩
def i106:IFun:= ⟨37,(sq 2 [oo 3 (kx 0 1),oo 4 (.mv (.c .nilS))]
 (sq 10 [om 10 0,oo 11 (kL 2 3),oo 12 (ka 104 [.t 10,.t 11]),om 9 12,oo 13 (ke 0 9),oo 14 (ke 1 9),oo 5 (.alloc 6 [.d (.str []),.nilS]),oo 6 (.alloc 7 [.d (.str []),.nilS]),os (ks 2 5 13),os (ks 2 6 14)]
 (sq 1 [oo 7 (.mv (.c .nilS))]
 (.seq (sq 4 [oo 15 (kf 1 5),oo 16 (kl 1 15),oo 17 (kn 16),oo 18 (km 0)]
 (.block 0 (.loop (lh 19 18 17 0
 (.seq (.block 1 (sq 2 [om 20 18,om 8 20]
 (.reg 15 [om 21 7,oo 22 (kf 1 5),oo 23 (kl 1 22),om 24 8,oo 25 (ki 1 23 24),oo 26 (kl 1 25),oo 27 (kf 1 6),oo 28 (kl 1 27),om 29 8,oo 30 (ki 1 28 29),oo 31 (kl 1 30),oo 32 (.build [.d (.int .i64 0),.d (.int .i64 0)] [(0,1,.t 26),(1,1,.t 31)]),oo 33 (.mkSl 12 2 true true [.d (.int .i64 0),.d (.int .i64 0)] 1 [(0,.t 32)]),oo 34 (.append 13 2 true 16 (.t 21) (.t 33)),om 7 34])))
 (li 35 18))))))
 (sq 2 [om 36 7,om 4 36]
 .ret))))),[.t 4],false,true,true,false⟩
def i107:IFun:= ⟨8,(sq 1 [oo 2 (.mv (.c .nilS))]
 (.seq (sq 2 [om 3 0,oo 4 (.eqNil false 0 (.t 3))]
 (.cond (.t 4) (sq 1 [oo 2 (.mv (.c .nilS))]
 .ret)
 .skip))
 (sq 4 [oo 5 (.mkSl 0 1 false false [.d (.int .i64 0)] 0 []),om 6 0,oo 7 (.append 2 1 false 8 (.t 5) (.t 6)),om 2 7]
 .ret))),[.t 2],false,false,false,true⟩
def i108:IFun:= ⟨8,(sq 2 [oo 2 (kx 0 0),oo 3 kF]
 (sq 5 [oo 4 (kl 1 1),oo 5 (kL 2 2),oo 6 (.call (.o (.t 4)) [.t 5]),oo 7 (.un .not (.t 6)),om 3 7]
 .ret)),[.t 3],false,true,false,false⟩
def i109:IFun:= ⟨9,(sq 1 [oo 4 kF]
 (sq 5 [om 5 0,om 6 1,oo 7 (ka 135 [.t 5,.t 6]),oo 8 (kc .geq 7 0),om 4 8]
 .ret)),[.t 4],false,true,false,false⟩
def i110:IFun:= ⟨8,(sq 1 [oo 3 kF]
 (sq 5 [oo 4 (kl 1 1),om 5 0,oo 6 (.call (.o (.t 4)) [.t 5]),oo 7 (.un .not (.t 6)),om 3 7]
 .ret)),[.t 3],false,true,false,false⟩
def i111:IFun:= ⟨19,(sq 1 [oo 4 (km 0)]
 (.seq (sq 3 [om 6 0,oo 7 (kn 6),oo 8 (km 0)]
 (.block 0 (.loop (lh 9 8 7 0
 (.seq (.block 1 (sq 2 [om 10 8,om 5 10]
 (sq 6 [om 11 1,om 12 0,om 13 5,oo 14 (ki 2 12 13),oo 15 (kL 2 14),oo 16 (.call (.o (.t 11)) [.t 15])]
 (.cond (.t 16) (sq 2 [om 17 5,om 4 17]
 .ret)
 .skip))))
 (li 18 8))))))
 (sq 1 [oo 4 (km (-1))]
 .ret))),[.t 4],false,true,false,false⟩
def i112:IFun:= ⟨19,(sq 1 [oo 4 (km 0)]
 (.seq (sq 3 [om 6 0,oo 7 (kn 6),oo 8 (km 0)]
 (.block 0 (.loop (lh 9 8 7 0
 (.seq (.block 1 (sq 2 [om 10 8,om 5 10]
 (sq 6 [om 11 1,om 12 0,om 13 5,oo 14 (ki 1 12 13),oo 15 (kl 1 14),oo 16 (kb .eql 11 15)]
 (.cond (.t 16) (sq 2 [om 17 5,om 4 17]
 .ret)
 .skip))))
 (li 18 8))))))
 (sq 1 [oo 4 (km (-1))]
 .ret))),[.t 4],true,false,false,false⟩
def i115:IFun:= ⟨21,(sq 2 [oo 2 (.alloc 0 (.replicate 256 (.d (.bool false)))),oo 3 kF]
 (.seq (sq 1 [oo 4 (km 0)]
 (.block 0 (.loop (.seq (sq 4 [om 6 4,om 7 0,oo 8 (.len true (.t 7)),oo 9 (kb .lss 6 8)]
 (.cond (.t 9) .skip
 (.exit 0)))
 (.seq (.block 1 (sq 4 [om 12 0,om 13 4,oo 14 (.indexS (.t 12) (.t 13)),om 5 14]
 (.seq (sq 2 [om 15 5,oo 16 (.bin .geq (.t 15) (cb 128))]
 (.cond (.t 16) (sq 3 [oo 17 (kL 256 2),os (ks 256 2 17),oo 3 kF]
 .ret)
 .skip))
 (.reg 3 [om 18 5,oo 19 (.iaddrA 256 1 (.t 2) (.t 18)),os (.store 1 (.t 19) ct)]))))
 (.reg 3 [om 10 4,oo 11 (kc .add 10 1),om 4 11]))))))
 (sq 3 [oo 20 (kL 256 2),os (ks 256 2 20),oo 3 kT]
 .ret))),[.cell 2 256 true,.t 3],true,false,false,false⟩
def i116:IFun:= ⟨16,(sq 1 [oo 4 (.mv (.c (.d (.str []))))]
 (.seq (.block 0 (.loop (.seq (sq 3 [om 5 0,oo 6 (.len true (.t 5)),oo 7 (kc .gtr 6 0)]
 (.cond (.t 7) .skip
 (.exit 0)))
 (.block 1 (.seq (sq 5 [om 8 1,om 9 0,oo 10 (.indexS (.t 9) (ci 0)),oo 11 (ka 136 [.t 8,.t 10]),oo 12 (.un .not (.t 11))]
 (.cond (.t 12) (.exit 0)
 .skip))
 (.reg 3 [om 13 0,oo 14 (.sliceS (.t 13) (.some (ci 1)) .none),om 0 14]))))))
 (sq 2 [om 15 0,om 4 15]
 .ret))),[.t 4],false,true,false,false⟩
def i117:IFun:= ⟨22,(sq 1 [oo 4 (.mv (.c (.d (.str []))))]
 (.seq (.block 0 (.loop (.seq (sq 3 [om 5 0,oo 6 (.len true (.t 5)),oo 7 (kc .gtr 6 0)]
 (.cond (.t 7) .skip
 (.exit 0)))
 (.block 1 (.seq (sq 8 [om 8 1,om 9 0,om 10 0,oo 11 (.len true (.t 10)),oo 12 (kc .sub 11 1),oo 13 (.indexS (.t 9) (.t 12)),oo 14 (ka 136 [.t 8,.t 13]),oo 15 (.un .not (.t 14))]
 (.cond (.t 15) (.exit 0)
 .skip))
 (.reg 6 [om 16 0,om 17 0,oo 18 (.len true (.t 17)),oo 19 (kc .sub 18 1),oo 20 (.sliceS (.t 16) .none (.some (.t 19))),om 0 20]))))))
 (sq 2 [om 21 0,om 4 21]
 .ret))),[.t 4],false,true,false,false⟩
def i120:IFun:= ⟨13,(sq 1 [oo 3 kF]
 (sq 10 [om 4 0,oo 5 (kc .geq 4 0),om 6 5,ot 7 (.mv (.t 0)) 6,ot 8 (kf 0 1) 6,ot 9 (kl 1 8) 6,ot 10 (kn 9) 6,ot 11 (kb .lss 7 10) 6,oo 12 (.pick (.t 6) (.t 11) cf),om 3 12]
 .ret)),[.t 3],false,true,false,false⟩
def i121:IFun:= ⟨9,(sq 2 [oo 3 (kx 0 1),oo 4 kF]
 (sq 5 [om 5 0,oo 6 (.mkf 141 [] [.t 3]),oo 7 (ka 140 [.t 5,.t 6]),oo 8 (.un .not (.t 7)),om 4 8]
 .ret)),[.t 4],false,true,false,false⟩
def i122:IFun:= ⟨7,(sq 2 [oo 1 (kx 0 0),oo 2 kF]
 (sq 5 [oo 3 (kf 1 1),oo 4 (kl 1 3),oo 5 (kn 4),oo 6 (kc .leq 5 4),om 2 6]
 .ret)),[.t 2],true,false,false,false⟩
def i123:IFun:= ⟨6,(sq 2 [oo 1 (kx 0 0),oo 2 kF]
 (sq 4 [oo 3 (kf 0 1),oo 4 (kl 1 3),oo 5 (ka 124 [.t 4]),om 2 5]
 .ret)),[.t 2],true,false,false,false⟩
def i124:IFun:= ⟨16,(sq 1 [oo 2 kF]
 (sq 14 [om 3 0,oo 4 (.len true (.t 3)),oo 5 (kc .gtr 4 0),om 6 5,ot 7 (.mv (.t 0)) 6,ot 8 (.len true (.t 7)) 6,ot 9 (kc .leq 8 8) 6,oo 10 (.pick (.t 6) (.t 9) cf),om 11 10,ot 12 (.mv (.t 0)) 11,ot 13 (ka 90 [.t 12,.c (.d (.str [97,98,99,100,101,102,103,104,105,106,107,108,109,110,111,112,113,114,115,116,117,118,119,120,121,122]))]) 11,ot 14 (.bin .eql (.t 13) (.c (.d (.str [])))) 11,oo 15 (.pick (.t 11) (.t 14) cf),om 2 15]
 .ret)),[.t 2],true,false,false,false⟩
def i125:IFun:= ⟨8,(sq 2 [oo 2 (kx 0 0),oo 3 kF]
 (sq 5 [oo 4 (kf 1 2),oo 5 (kl 1 4),oo 6 (kl 1 1),oo 7 (ka 126 [.t 5,.t 6]),om 3 7]
 .ret)),[.t 3],false,true,false,false⟩
def i126:IFun:= ⟨9,(sq 2 [oo 3 (kx 0 1),oo 4 kF]
 (sq 5 [om 5 0,oo 6 (.mkf 143 [] [.t 3]),oo 7 (ka 142 [.t 5,.t 6]),oo 8 (.un .not (.t 7)),om 4 8]
 .ret)),[.t 4],false,true,false,false⟩
def i127:IFun:= ⟨5,(sq 1 [oo 2 (.mv (.c (.d (.str []))))]
 (sq 3 [om 3 0,oo 4 (ka 144 [.t 3]),om 2 4]
 .ret)),[.t 2],true,false,false,false⟩
def i128:IFun:= ⟨69,(sq 1 [oo 4 (.mv (.c .nilS))]
 (sq 4 [om 12 0,oo 13 (kn 12),oo 14 (.mkslice 2 1 false 1 [.d (.bool false)] (.t 13) (.t 13)),om 5 14]
 (sq 1 [oo 6 (.mv (.c .nilS))]
 (.seq (sq 3 [om 15 1,oo 16 (kn 15),oo 17 (km 0)]
 (.block 0 (.loop (lh 18 17 16 0
 (.seq (.block 1 (sq 3 [oo 19 (ki 1 15 17),oo 20 (kl 1 19),om 8 20]
 (sq 3 [om 21 6,oo 22 (kn 21),om 9 22]
 (.seq (sq 5 [om 23 5,om 24 8,oo 25 (ki 1 23 24),oo 26 (kl 1 25),oo 27 (.un .not (.t 26))]
 (.cond (.t 27) (sq 4 [om 28 5,om 29 8,oo 30 (ki 1 28 29),os (.store 1 (.t 30) ct)]
 (.reg 5 [om 31 6,om 32 8,oo 33 (.mkSl 2 1 false true [.d (.int .i64 0)] 1 [(0,.t 32)]),oo 34 (.append 3 1 false 8 (.t 31) (.t 33)),om 6 34]))
 .skip))
 (.block 2 (.loop (.seq (sq 4 [om 35 9,om 36 6,oo 37 (kn 36),oo 38 (kb .lss 35 37)]
 (.cond (.t 38) .skip
 (.exit 2)))
 (.seq (.block 3 (sq 10 [om 41 0,om 42 6,om 43 9,oo 44 (ki 1 42 43),oo 45 (kl 1 44),oo 46 (ki 2 41 45),oo 47 (kf 1 46),oo 48 (kl 1 47),oo 49 (kn 48),oo 50 (km 0)]
 (.block 4 (.loop (lh 51 50 49 4
 (.seq (.block 5 (sq 3 [oo 52 (ki 1 48 50),oo 53 (kl 1 52),om 11 53]
 (sq 5 [om 54 5,om 55 11,oo 56 (ki 1 54 55),oo 57 (kl 1 56),oo 58 (.un .not (.t 57))]
 (.cond (.t 58) (sq 4 [om 59 5,om 60 11,oo 61 (ki 1 59 60),os (.store 1 (.t 61) ct)]
 (.reg 5 [om 62 6,om 63 11,oo 64 (.mkSl 2 1 false true [.d (.int .i64 0)] 1 [(0,.t 63)]),oo 65 (.append 3 1 false 8 (.t 62) (.t 64)),om 6 65]))
 .skip))))
 (li 66 50)))))))
 (.reg 3 [om 39 9,oo 40 (kc .add 39 1),om 9 40])))))))))
 (li 67 17))))))
 (sq 2 [om 68 6,om 4 68]
 .ret))))),[.t 4],true,false,true,false⟩
def i129:IFun:= ⟨98,(sq 2 [oo 4 (.mv (.c .nilS)),oo 5 (km 0)]
 (sq 4 [om 18 0,oo 19 (kn 18),oo 20 (.mkslice 2 1 false 8 [.d (.int .i64 0)] (.t 19) (.t 19)),om 6 20]
 (sq 1 [oo 7 (km 1)]
 (.block 0 (.loop (.block 1 (sq 4 [om 21 0,oo 22 (kn 21),oo 23 (.mkslice 2 1 false 8 [.d (.int .i64 0)] (.t 22) (.t 22)),om 8 23]
 (.seq (sq 3 [om 24 8,oo 25 (kn 24),oo 26 (km 0)]
 (.block 2 (.loop (lh 27 26 25 2
 (.seq (.block 3 (sq 2 [om 28 26,om 9 28]
 (.reg 4 [om 29 8,om 30 9,oo 31 (ki 1 29 30),os (.store 1 (.t 31) (ci (-1)))])))
 (li 32 26))))))
 (sq 2 [oo 33 (.mkmap 0 236),om 10 33]
 (.seq (sq 3 [om 34 1,oo 35 (kn 34),oo 36 (km 0)]
 (.block 4 (.loop (lh 37 36 35 4
 (.seq (.block 5 (sq 3 [oo 38 (ki 1 34 36),oo 39 (kl 1 38),om 12 39]
 (sq 14 [om 40 0,om 41 12,oo 42 (ki 2 40 41),oo 43 (kf 0 42),oo 44 (kl 1 43),om 45 0,om 46 12,oo 47 (ki 2 45 46),oo 48 (kf 1 47),oo 49 (kl 1 48),oo 50 (kn 49),oo 51 (.build [.d (.str []),.d (.int .i64 0),.d (.int .i64 0),.d (.int .i64 0),.d (.int .i64 0),.d (.int .i64 0)] [(0,1,.t 44),(1,1,.t 50)]),oo 13 (.alloc 12 [.d (.str []),.d (.int .i64 0),.d (.int .i64 0),.d (.int .i64 0),.d (.int .i64 0),.d (.int .i64 0)]),os (ks 6 13 51)]
 (.seq (sq 7 [om 52 0,om 53 12,oo 54 (ki 2 52 53),oo 55 (kf 1 54),oo 56 (kl 1 55),oo 57 (kn 56),oo 58 (km 0)]
 (.block 6 (.loop (lh 59 58 57 6
 (.seq (.block 7 (sq 5 [om 60 58,oo 61 (ki 1 56 58),oo 62 (kl 1 61),om 14 60,om 15 62]
 (.reg 8 [om 63 14,om 64 6,om 65 15,oo 66 (ki 1 64 65),oo 67 (kl 1 66),oo 68 (kf 2 13),oo 69 (.iaddrA 4 1 (.t 68) (.t 63)),os (ks 1 69 67)])))
 (li 70 58))))))
 (sq 8 [om 72 10,oo 73 (kL 6 13),oo 74 (.lookup 236 true [.s,.i .i64,.i .i64,.i .i64,.i .i64,.i .i64] true (.d (.int .i64 0)) (.t 72) (.t 73)),om 71 74,oo 75 (ke 0 71),oo 76 (ke 1 71),om 16 75,om 17 76]
 (.seq (sq 2 [om 77 17,oo 78 (.un .not (.t 77))]
 (.cond (.t 78) (sq 3 [om 79 10,oo 80 (.lenM (.t 79)),om 16 80]
 (.reg 4 [om 81 10,oo 82 (kL 6 13),om 83 16,os (.mapUpd 236 true [.s,.i .i64,.i .i64,.i .i64,.i .i64,.i .i64] (.t 81) (.t 82) (.t 83))]))
 .skip))
 (.reg 5 [om 84 8,om 85 12,om 86 16,oo 87 (ki 1 84 85),os (ks 1 87 86)])))))))
 (li 88 36))))))
 (.seq (sq 4 [om 89 10,oo 90 (.lenM (.t 89)),om 91 7,oo 92 (kb .eql 90 91)]
 (.cond (.t 92) (sq 4 [om 93 8,om 94 7,om 4 93,om 5 94]
 .ret)
 .skip))
 (.reg 5 [om 95 8,om 96 10,oo 97 (.lenM (.t 96)),om 6 95,om 7 97])))))))))))),[.t 4,.t 5],true,false,true,false⟩
def i130:IFun:= ⟨87,(sq 1 [oo 8 (.alloc 0 [.nilS,.d (.int .i64 0)])]
 (sq 5 [om 15 3,oo 16 (.mkslice 1 2 true 40 [.d (.str []),.nilS] (.t 15) (.t 15)),oo 17 (.build [.nilS,.d (.int .i64 0)] [(0,1,.t 16)]),oo 9 (.alloc 3 [.nilS,.d (.int .i64 0)]),os (ks 2 9 17)]
 (.seq (sq 3 [om 18 1,oo 19 (kn 18),oo 20 (km 0)]
 (.block 0 (.loop (lh 21 20 19 0
 (.seq (.block 1 (sq 3 [oo 22 (ki 1 18 20),oo 23 (kl 1 22),om 11 23]
 (sq 8 [oo 24 (kf 0 9),oo 25 (kl 1 24),om 26 2,om 27 11,oo 28 (ki 1 26 27),oo 29 (kl 1 28),oo 30 (ki 2 25 29),om 12 30]
 (.seq (sq 5 [om 31 12,oo 32 (.nilck (.t 31)),oo 33 (kf 0 32),oo 34 (kl 1 33),oo 35 (.bin .neq (.t 34) (.c (.d (.str []))))]
 (.cond (.t 35) (.exit 1)
 .skip))
 (sq 9 [om 36 12,om 37 0,om 38 11,oo 39 (ki 2 37 38),oo 40 (kf 0 39),oo 41 (kl 1 40),oo 42 (.nilck (.t 36)),oo 43 (kf 0 42),os (ks 1 43 41)]
 (sq 11 [om 44 12,om 45 0,om 46 11,oo 47 (ki 2 45 46),oo 48 (kf 1 47),oo 49 (kl 1 48),oo 50 (kn 49),oo 51 (.mkslice 7 1 false 8 [.d (.int .i64 0)] (.t 50) (.t 50)),oo 52 (.nilck (.t 44)),oo 53 (kf 1 52),os (ks 1 53 51)]
 (sq 10 [om 54 12,oo 55 (.nilck (.t 54)),oo 56 (kf 1 55),oo 57 (kl 1 56),om 58 0,om 59 11,oo 60 (ki 2 58 59),oo 61 (kf 1 60),oo 62 (kl 1 61),oo 63 (.copy 1 (.t 57) (.t 62))]
 (sq 6 [om 64 12,oo 65 (.nilck (.t 64)),oo 66 (kf 1 65),oo 67 (kl 1 66),oo 68 (kn 67),oo 69 (km 0)]
 (.block 2 (.loop (lh 70 69 68 2
 (.seq (.block 3 (sq 5 [om 71 69,oo 72 (ki 1 67 69),oo 73 (kl 1 72),om 13 71,om 14 73]
 (.reg 11 [om 74 12,oo 75 (.nilck (.t 74)),oo 76 (kf 1 75),oo 77 (kl 1 76),om 78 13,om 79 2,om 80 14,oo 81 (ki 1 79 80),oo 82 (kl 1 81),oo 83 (ki 1 77 78),os (ks 1 83 82)])))
 (li 84 69)))))))))))))
 (li 85 20))))))
 (sq 2 [oo 86 (kL 2 9),os (ks 2 8 86)]
 .ret)))),[.cell 8 2 true],true,false,true,false⟩
def i131:IFun:= ⟨33,(sq 2 [oo 4 (kx 0 1),oo 5 kF]
 (sq 6 [oo 11 (kL 2 4),oo 12 (ka 97 [.t 11]),om 10 12,oo 13 (ke 0 10),oo 14 (ke 1 10),os (ks 2 4 13)]
 (sq 9 [oo 16 (kl 1 2),om 17 0,oo 18 (.lookup 9 false [.s] true (.agg [.nilS,.d (.int .i64 0)]) (.t 16) (.t 17)),om 15 18,oo 19 (ke 0 15),oo 20 (ke 1 15),oo 6 (.alloc 6 [.nilS,.d (.int .i64 0)]),os (ks 2 6 19),om 7 20]
 (sq 4 [oo 21 (kl 1 2),om 22 0,oo 23 (kL 2 4),os (.mapUpd 9 false [.s] (.t 21) (.t 22) (.t 23))]
 (.seq (sq 2 [om 24 7,oo 25 (.un .not (.t 24))]
 (.cond (.t 25) (sq 1 [oo 5 kT]
 .ret)
 .skip))
 (sq 8 [oo 27 (kL 2 6),oo 28 (kL 2 4),oo 29 (ka 28 [.t 27,.t 28]),om 26 29,oo 30 (ke 0 26),oo 31 (ke 1 26),om 8 30,om 9 31]
 (sq 2 [om 32 8,om 5 32]
 .ret))))))),[.t 5],false,false,true,false⟩
def i132:IFun:= ⟨19,(sq 1 [oo 4 (km 0)]
 (.seq (sq 3 [om 6 0,oo 7 (kn 6),oo 8 (km 0)]
 (.block 0 (.loop (lh 9 8 7 0
 (.seq (.block 1 (sq 2 [om 10 8,om 5 10]
 (sq 6 [om 11 1,om 12 0,om 13 5,oo 14 (ki 2 12 13),oo 15 (kL 2 14),oo 16 (.call (.o (.t 11)) [.t 15])]
 (.cond (.t 16) (sq 2 [om 17 5,om 4 17]
 .ret)
 .skip))))
 (li 18 8))))))
 (sq 1 [oo 4 (km (-1))]
 .ret))),[.t 4],false,true,false,false⟩
def i135:IFun:= ⟨19,(sq 1 [oo 4 (km 0)]
 (.seq (sq 3 [om 6 0,oo 7 (kn 6),oo 8 (km 0)]
 (.block 0 (.loop (lh 9 8 7 0
 (.seq (.block 1 (sq 2 [om 10 8,om 5 10]
 (sq 6 [om 11 1,om 12 0,om 13 5,oo 14 (ki 1 12 13),oo 15 (kl 1 14),oo 16 (.call (.o (.t 11)) [.t 15])]
 (.cond (.t 16) (sq 2 [om 17 5,om 4 17]
 .ret)
 .skip))))
 (li 18 8))))))
 (sq 1 [oo 4 (km (-1))]
 .ret))),[.t 4],false,true,false,false⟩
def i136:IFun:= ⟨10,(sq 1 [oo 4 kF]
 (sq 6 [om 5 0,om 6 1,oo 7 (.nilck (.t 5)),oo 8 (.iaddrA 256 1 (.t 7) (.t 6)),oo 9 (kl 1 8),om 4 9]
 .ret)),[.t 4],false,true,false,false⟩
def i140:IFun:= ⟨9,(sq 1 [oo 4 kF]
 (sq 5 [om 5 0,om 6 1,oo 7 (ka 148 [.t 5,.t 6]),oo 8 (kc .geq 7 0),om 4 8]
 .ret)),[.t 4],false,true,false,false⟩
def i141:IFun:= ⟨8,(sq 2 [oo 2 (kx 0 0),oo 3 kF]
 (sq 5 [oo 4 (kl 1 1),oo 5 (kL 2 2),oo 6 (.call (.o (.t 4)) [.t 5]),oo 7 (.un .not (.t 6)),om 3 7]
 .ret)),[.t 3],false,true,false,false⟩
def i142:IFun:= ⟨9,(sq 1 [oo 4 kF]
 (sq 5 [om 5 0,om 6 1,oo 7 (ka 149 [.t 5,.t 6]),oo 8 (kc .geq 7 0),om 4 8]
 .ret)),[.t 4],false,true,false,false⟩
def i143:IFun:= ⟨8,(sq 1 [oo 3 kF]
 (sq 5 [oo 4 (kl 1 1),om 5 0,oo 6 (.call (.o (.t 4)) [.t 5]),oo 7 (.un .not (.t 6)),om 3 7]
 .ret)),[.t 3],false,true,false,false⟩
def i144:IFun:= ⟨5,(sq 1 [oo 2 (.mv (.c (.d (.str []))))]
 (sq 3 [om 3 0,oo 4 (ka 150 [.t 3,ci 10]),om 2 4]
 .ret)),[.t 2],true,false,false,false⟩
def i148:IFun:= ⟨19,(sq 1 [oo 4 (km 0)]
 (.seq (sq 3 [om 6 0,oo 7 (kn 6),oo 8 (km 0)]
 (.block 0 (.loop (lh 9 8 7 0
 (.seq (.block 1 (sq 2 [om 10 8,om 5 10]
 (sq 6 [om 11 1,om 12 0,om 13 5,oo 14 (ki 2 12 13),oo 15 (kL 2 14),oo 16 (.call (.o (.t 11)) [.t 15])]
 (.cond (.t 16) (sq 2 [om 17 5,om 4 17]
 .ret)
 .skip))))
 (li 18 8))))))
 (sq 1 [oo 4 (km (-1))]
 .ret))),[.t 4],false,true,false,false⟩
def i149:IFun:= ⟨19,(sq 1 [oo 4 (km 0)]
 (.seq (sq 3 [om 6 0,oo 7 (kn 6),oo 8 (km 0)]
 (.block 0 (.loop (lh 9 8 7 0
 (.seq (.block 1 (sq 2 [om 10 8,om 5 10]
 (sq 6 [om 11 1,om 12 0,om 13 5,oo 14 (ki 1 12 13),oo 15 (kl 1 14),oo 16 (.call (.o (.t 11)) [.t 15])]
 (.cond (.t 16) (sq 2 [om 17 5,om 4 17]
 .ret)
 .skip))))
 (li 18 8))))))
 (sq 1 [oo 4 (km (-1))]
 .ret))),[.t 4],false,true,false,false⟩
def i150:IFun:= ⟨54,(sq 1 [oo 4 (.mv (.c (.d (.str []))))]
 (.seq (sq 2 [om 10 1,oo 11 (kc .eql 10 10)]
 (.cond (.t 11) (.seq (sq 6 [om 12 0,oo 13 (.bin .leq (ci 0) (.t 12)),om 14 13,ot 15 (.mv (.t 0)) 14,ot 16 (kc .lss 15 100) 14,oo 17 (.pick (.t 14) (.t 16) cf)]
 (.cond (.t 17) (sq 3 [om 18 0,oo 19 (ka 155 [.t 18]),om 4 19]
 .ret)
 .skip))
 (sq 1 [oo 5 (.alloc 0 [.d (.int .u8 0),.d (.int .u8 0),.d (.int .u8 0),.d (.int .u8 0),.d (.int .u8 0),.d (.int .u8 0),.d (.int .u8 0),.d (.int .u8 0),.d (.int .u8 0),.d (.int .u8 0),.d (.int .u8 0),.d (.int .u8 0),.d (.int .u8 0),.d (.int .u8 0),.d (.int .u8 0),.d (.int .u8 0),.d (.int .u8 0),.d (.int .u8 0),.d (.int .u8 0),.d (.int .u8 0),.d (.int .u8 0),.d (.int .u8 0),.d (.int .u8 0),.d (.int .u8 0)])]
 (sq 3 [om 20 0,oo 21 (.convI .u64 (.t 20)),om 6 21]
 (.seq (sq 2 [om 22 0,oo 23 (kc .lss 22 0)]
 (.cond (.t 23) (.reg 3 [om 24 6,oo 25 (.un .neg (.t 24)),om 6 25])
 .skip))
 (sq 3 [om 26 6,oo 27 (ka 156 [.t 26]),om 7 27]
 (sq 5 [om 28 7,oo 29 (.bin .add (ci 1) (.t 28)),oo 30 (.sliceA 24 1 false (.t 5) (.some (ci 1)) (.some (.t 29))),om 31 6,oo 32 (ka 157 [.t 30,.t 31])]
 (.seq (sq 2 [om 33 0,oo 34 (kc .lss 33 0)]
 (.cond (.t 34) (sq 2 [oo 35 (.iaddrA 24 1 (.t 5) (ci 0)),os (.store 1 (.t 35) (cb 45))]
 (sq 5 [om 36 7,oo 37 (.bin .add (ci 1) (.t 36)),oo 38 (.sliceA 24 1 false (.t 5) .none (.some (.t 37))),oo 39 .bad,om 4 39]
 .ret))
 .skip))
 (sq 5 [om 40 7,oo 41 (.bin .add (ci 1) (.t 40)),oo 42 (.sliceA 24 1 false (.t 5) (.some (ci 1)) (.some (.t 41))),oo 43 .bad,om 4 43]
 .ret))))))))
 .skip))
 (sq 11 [om 45 0,oo 46 (.convI .u64 (.t 45)),om 47 1,om 48 0,oo 49 (kc .lss 48 0),oo 50 (ka 158 [(.c .nilS),.t 46,.t 47,.t 49,cf]),om 44 50,oo 51 (ke 0 44),oo 52 (ke 1 44),om 8 51,om 9 52]
 (sq 2 [om 53 9,om 4 53]
 .ret)))),[.t 4],true,false,false,false⟩
def i155:IFun:= ⟨15,(sq 1 [oo 2 (.mv (.c (.d (.str []))))]
 (.seq (sq 2 [om 3 0,oo 4 (kc .lss 3 10)]
 (.cond (.t 4) (sq 5 [om 5 0,om 6 0,oo 7 (kc .add 6 1),oo 8 (.sliceS (.c (.d (.str [48,49,50,51,52,53,54,55,56,57,97,98,99,100,101,102,103,104,105,106,107,108,109,110,111,112,113,114,115,116,117,118,119,120,121,122]))) (.some (.t 5)) (.some (.t 7))),om 2 8]
 .ret)
 .skip))
 (sq 7 [om 9 0,oo 10 (kc .mul 9 2),om 11 0,oo 12 (kc .mul 11 2),oo 13 (kc .add 12 2),oo 14 (.sliceS (.c (.d (.str [48,48,48,49,48,50,48,51,48,52,48,53,48,54,48,55,48,56,48,57,49,48,49,49,49,50,49,51,49,52,49,53,49,54,49,55,49,56,49,57,50,48,50,49,50,50,50,51,50,52,50,53,50,54,50,55,50,56,50,57,51,48,51,49,51,50,51,51,51,52,51,53,51,54,51,55,51,56,51,57,52,48,52,49,52,50,52,51,52,52,52,53,52,54,52,55,52,56,52,57,53,48,53,49,53,50,53,51,53,52,53,53,53,54,53,55,53,56,53,57,54,48,54,49,54,50,54,51,54,52,54,53,54,54,54,55,54,56,54,57,55,48,55,49,55,50,55,51,55,52,55,53,55,54,55,55,55,56,55,57,56,48,56,49,56,50,56,51,56,52,56,53,56,54,56,55,56,56,56,57,57,48,57,49,57,50,57,51,57,52,57,53,57,54,57,55,57,56,57,57]))) (.some (.t 10)) (.some (.t 13))),om 2 14]
 .ret))),[.t 2],true,false,false,false⟩
def G:Nat→Option IFun
 |3=>some i3
 |4=>some i4
 |5=>some i5
 |6=>some i6
 |7=>some i7
 |8=>some i8
 |9=>some i9
 |10=>some i10
 |11=>some i11
 |12=>some i12
 |13=>some i13
 |14=>some i14
 |15=>some i15
 |16=>some i16
 |17=>some i17
 |18=>some i18
 |20=>some i20
 |21=>some i21
 |22=>some i22
 |23=>some i23
 |24=>some i24
 |25=>some i25
 |26=>some i26
 |27=>some i27
 |28=>some i28
 |29=>some i29
 |30=>some i30
 |31=>some i31
 |32=>some i32
 |33=>some i33
 |34=>some i34
 |35=>some i35
 |36=>some i36
 |37=>some i37
 |38=>some i38
 |39=>some i39
 |40=>some i40
 |41=>some i41
 |42=>some i42
 |43=>some i43
 |44=>some i44
 |46=>some i46
 |47=>some i47
 |48=>some i48
 |49=>some i49
 |50=>some i50
 |51=>some i51
 |52=>some i52
 |53=>some i53
 |54=>some i54
 |55=>some i55
 |56=>some i56
 |57=>some i57
 |58=>some i58
 |59=>some i59
 |60=>some i60
 |61=>some i61
 |62=>some i62
 |63=>some i63
 |64=>some i64
 |65=>some i65
 |66=>some i66
 |67=>some i67
 |68=>some i68
 |69=>some i69
 |70=>some i70
 |71=>some i71
 |72=>some i72
 |73=>some i73
 |74=>some i74
 |75=>some i75
 |76=>some i76
 |77=>some i77
 |78=>some i78
 |79=>some i79
 |80=>some i80
 |81=>some i81
 |82=>some i82
 |83=>some i83
 |84=>some i84
 |85=>some i85
 |86=>some i86
 |87=>some i87
 |88=>some i88
 |89=>some i89
 |90=>some i90
 |91=>some i91
 |92=>some i92
 |93=>some i93
 |94=>some i94
 |95=>some i95
 |96=>some i96
 |97=>some i97
 |98=>some i98
 |99=>some i99
 |100=>some i100
 |101=>some i101
 |104=>some i104
 |105=>some i105
 |106=>some i106
 |107=>some i107
 |108=>some i108
 |109=>some i109
 |110=>some i110
 |111=>some i111
 |112=>some i112
 |115=>some i115
 |116=>some i116
 |117=>some i117
 |120=>some i120
 |121=>some i121
 |122=>some i122
 |123=>some i123
 |124=>some i124
 |125=>some i125
 |126=>some i126
 |127=>some i127
 |128=>some i128
 |129=>some i129
 |130=>some i130
 |131=>some i131
 |132=>some i132
 |135=>some i135
 |136=>some i136
 |140=>some i140
 |141=>some i141
 |142=>some i142
 |143=>some i143
 |144=>some i144
 |148=>some i148
 |149=>some i149
 |150=>some i150
 |155=>some i155
 |_=>none
end Go.Lift.T1
