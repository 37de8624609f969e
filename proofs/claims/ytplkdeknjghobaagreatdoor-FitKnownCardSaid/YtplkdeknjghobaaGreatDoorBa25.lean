import Derived.Test.YtplkdeknjghobaaGreatDoorBa24
set_option maxRecDepth 100000
set_option maxHeartbeats 0
namespace Go.Proofs.YtplkdeknjghobaaGreatDoor
open Go.RowKit Go.Lib
theorem nil_n (w:World):NCells w none 0 0 []:=⟨fun h=>absurd h (by decide),fun k hk=>absurd hk (by simp)⟩
theorem nil_p (w:World):PCells w none 0 0 []:=⟨fun h=>absurd h (by decide),fun k hk=>absurd hk (by simp)⟩
theorem qh1:¬PtsOk []:=fun h=>absurd h.r1 (by decide)
def BadAt (W:World) (v:Value):Prop:=∃m,MdAt W v m∧(∀q,q<3→(m.row q).length≤4611686018427387904)∧¬qcp m
theorem BadAt.below {W W':World} {v:Value} (h:BadAt W v) (hb:Below W.heap.size W W'):BadAt W' v:=h.elim fun m h=>⟨m,h.1.below hb,h.2⟩
theorem qik (w:World) (v:Value) (h:BadAt w v):Calls Tryz.prog 39 #[v] w fun e w'=>e=.returned (.int .i64 320)∧Below w.heap.size w w':=by
 obtain⟨m,hM,hl,hb⟩:=h
 refine (qdY m v w hM hl).mono ?_
 rintro e w' ⟨c,rfl,⟨_,h⟩ | ⟨rfl,_⟩,hb'⟩
 ·exact absurd h hb
 ·exact⟨rfl,hb'⟩
theorem qlb (w:World) (v:Value) (h:BadAt w v) (hT:HasT w):Calls Tryz.prog 22 #[v,.slice none 0 0] w fun e w'=>e=.returned (.tuple #[.agg #[.string ⟨#[]⟩,.string ⟨#[]⟩,.string ⟨#[]⟩,.string ⟨#[]⟩,.string ⟨#[]⟩,.string ⟨#[]⟩],.int .i64 320])∧Below w.heap.size w w':=by
 obtain⟨m,hM,hl,hb⟩:=h
 refine (qgu m v 0 0 0 0 none [] w hM rfl (by decide) hl (nil_n w) hT).mono ?_
 rintro e w' ⟨hb',⟨v,rfl,_,kk,h,_⟩ | ⟨c,rfl,⟨_,rfl⟩ | ⟨h,_⟩ | ⟨_,_,kk,h,_⟩⟩⟩
 ·exact absurd ⟨_,_,h⟩ hb
 ·exact⟨rfl,hb'⟩
 ·exact absurd h hb
 ·exact absurd ⟨_,_,h⟩ hb
theorem qhK (w:World) (v:Value) (h:BadAt w v) (hT:HasT w):Calls Tryz.prog 21 #[v,.slice none 0 0] w fun e w'=>e=.returned (.tuple #[.slice none 0 0,.int .i64 320])∧Below w.heap.size w w':=by
 obtain⟨m,hM,hl,hb⟩:=h
 refine (qei m v 0 0 0 0 none [] w hM rfl (by decide) (fun k hk=>absurd hk (by omega)) hl (nil_p w) hT).mono ?_
 rintro e w' ⟨hb',⟨v,rfl,_,kk,h,_⟩ | ⟨c,rfl,⟨_,rfl⟩ | ⟨h,_⟩ | ⟨h,_⟩ | ⟨_,_,kk,h,_⟩⟩⟩
 ·exact absurd ⟨_,_,h⟩ hb
 ·exact⟨rfl,hb'⟩
 ·exact absurd h hb
 ·exact absurd h hb
 ·exact absurd ⟨_,_,h⟩ hb
theorem qji (w:World) (v:Value) (h:BadAt w v) (hT:HasT w):Calls Tryz.prog 33 #[v,.slice none 0 0] w fun e w'=>e=.returned (.tuple #[.slice none 0 0,.int .i64 320])∧Below w.heap.size w w':=by
 obtain⟨m,hM,hl,hb⟩:=h
 refine (qg5 m v 0 0 0 0 none [] w hM rfl (by decide) (fun k hk=>absurd hk (by omega)) hl (nil_p w) hT).mono ?_
 rintro e w' ⟨hb',⟨v,rfl,_,kk,h,_⟩ | ⟨c,rfl,⟨_,rfl⟩ | ⟨h,_⟩ | ⟨h,_⟩ | ⟨_,_,kk,h,_⟩⟩⟩
 ·exact absurd ⟨_,_,h⟩ hb
 ·exact⟨rfl,hb'⟩
 ·exact absurd h hb
 ·exact absurd h hb
 ·exact absurd ⟨_,_,h⟩ hb
def elv0:Value:=.agg #[.int .i64 0,.slice none 0 0,.slice none 0 0,.slice none 0 0,.slice none 0 0,.int .i64 0,.slice none 0 0,.slice none 0 0,.int .i64 0,.int .i64 0]
theorem qjh (w:World) (v:Value) (h:BadAt w v) (hT:HasT w) (hE:HasE w):Calls Tryz.prog 28 #[v] w fun e w'=>e=.returned (.tuple #[elv0,.int .i64 320])∧Below w.heap.size w w':=by
 obtain⟨m,hM,hl,hb⟩:=h
 refine (qdw m v w hM hl hT hE).mono ?_
 rintro e w' ⟨hb',⟨v,rfl,n,h,_⟩ | ⟨c,rfl,⟨_,rfl⟩ | ⟨h,_⟩ | ⟨n,h,_⟩⟩⟩
 ·exact absurd ⟨_,_,h⟩ hb
 ·exact⟨rfl,hb'⟩
 ·exact absurd h hb
 ·exact absurd ⟨_,_,h⟩ hb
theorem qjB {k:Int} {i:Int} {a b c:List FT} (h:¬(1≤k∧k≤3)):¬qcp ⟨k,i,a,b,c⟩:=fun⟨k',n,h'⟩=>h (by have:=h'.kind.1;have:=h'.kind.2;simp only at *;omega)
theorem md_inn {k:Int} {i:Int} {a b c:List FT} (h:¬(1≤i∧i≤4)):¬qcp ⟨k,i,a,b,c⟩:=fun⟨k',n,h'⟩=>h (by have:=h'.inn.1;have:=h'.inn.2;simp only at *;omega)
theorem md_both {a b c:List FT}:¬qcp ⟨3,4,a,b,c⟩:=fun⟨k',n,h'⟩=>h'.both (by have:=h'.kind.1;have:=h'.inn.1;simp only at *;omega)
theorem md_many {i:Int} {a b c:List FT} (h:a.length≠1+i.toNat):¬qcp ⟨1,i,a,b,c⟩:=fun⟨k',n,h'⟩=>by
 have h1:=h'.kind.1
 have h2:=h'.inn.1
 have h3:=(h'.rows 0 (by decide)).1
 simp only at h1 h2
 obtain rfl:k'=1:=by omega
 have h4:a.length=many 1 n:=h3
 unfold many at h4
 rw [if_pos rfl] at h4
 omega
theorem md_bad {i:Int} {a b:List FT}:¬qcp ⟨1,i,a,b,[fd0,fd0]⟩:=fun⟨k',n,h'⟩=>by
 have h:FOk [] []:=(h'.rows 2 (by decide)).2 0 (by decide:0<2)
 exact absurd h.pos (by decide)
theorem qcJ {W:World} {g:Nat} {ws:List Int} (h:W.heap[g]? = some (.cells (ws.map fun z=>Value.int .i64 z).toArray 3 (0,0))):NCells W (some ⟨g,0,none⟩) g 0 ws:=by
 have:=qfj (q:=ws) h 0
 rwa [List.drop_zero] at this
theorem qhQ (w:World) (l:List Pt) (R g c:Nat) (kind:Int) (ws:List Int) (n g2 c2:Nat) (hn:ws.length=n) (hn2:n≤1000) (hR:l.length=R) (hR2:R≤1000) (hs:∀k,k<R→(l.getD k pt0).name.size≤1000∧(l.getD k pt0).dev.length≤1000) (hP:PCells w (some ⟨g,0,none⟩) g 0 l) (hN:w.heap[g2]? = some (.cells (ws.map fun z=>Value.int .i64 z).toArray 3 (0,0))) (hT:HasT w) :
  Calls Tryz.prog 14 #[.slice (some ⟨g,0,none⟩) R c,.int .i64 kind,.slice (some ⟨g2,0,none⟩) n c2] w fun e w'=>FitAs w l kind ws e w' :=
 qgB R g 0 c g2 0 n c2 (some ⟨g,0,none⟩) (some ⟨g2,0,none⟩) l kind ws w hR (by omega) (fun k hk=>⟨by have:=(hs k hk).1;omega,by have:=(hs k hk).2;omega⟩) hn (by omega) hP (qcJ hN) hT
theorem FitAs.patch {w:World} {l:List Pt} {kind:Int} {ws:List Int} {e:Ending} {w':World} (h:FitAs w l kind ws e w') (hP:¬PtsOk l):e=.returned (.tuple #[mdv0,.int .i64 310])∧Below w.heap.size w w':=by
 refine⟨?_,h.1⟩
 rcases h.2 with ⟨v,rfl,h,_⟩ | ⟨c,rfl,⟨_,rfl⟩ | ⟨h,_⟩ | ⟨h,_⟩⟩
 ·exact absurd h hP
 ·rfl
 ·exact absurd h hP
 ·exact absurd h hP
theorem FitAs.arg {w:World} {l:List Pt} {kind:Int} {ws:List Int} {e:Ending} {w':World} (h:FitAs w l kind ws e w') (hP:PtsOk l) (ha:¬((∃k,qch kind k)∧ws.length=l.length∧WOk ws)):e=.returned (.tuple #[mdv0,.int .i64 2])∧Below w.heap.size w w':=by
 refine⟨?_,h.1⟩
 rcases h.2 with ⟨v,rfl,_,h1,h2,k,h3,_⟩ | ⟨c,rfl,⟨h,_⟩ | ⟨_,_,rfl⟩ | ⟨_,h1,h2,k,h3,_⟩⟩
 ·exact absurd ⟨⟨k,h3⟩,h1,h2⟩ ha
 ·exact absurd hP h
 ·rfl
 ·exact absurd ⟨⟨k,h3⟩,h1,h2⟩ ha
theorem FitAs.form {w:World} {l:List Pt} {ws:List Int} {e:Ending} {w':World} (h:FitAs w l 3 ws e w') (hP:PtsOk l) (h1:ws.length=l.length) (h2:WOk ws) (h4:chans l=4):e=.returned (.tuple #[mdv0,.int .i64 5])∧Below w.heap.size w w':=by
 refine⟨?_,h.1⟩
 rcases h.2 with ⟨v,rfl,_,_,_,k,h3,hn,_⟩ | ⟨c,rfl,⟨h,_⟩ | ⟨_,h,_⟩ | ⟨_,_,_,k,h3,⟨_,_,rfl⟩ | ⟨hn,_⟩⟩⟩
 ·exact absurd ⟨kind3.uniq h3▸rfl,h4⟩ hn
 ·exact absurd hP h
 ·exact absurd ⟨⟨3,kind3⟩,h1,h2⟩ h
 ·rfl
 ·exact absurd ⟨kind3.uniq h3▸rfl,h4⟩ hn
def four:List Pt:=[⟨⟨#[97]⟩,[0,0,0,0],0,0,0⟩]
theorem qhS:PtsOk four where
 r1:=by decide
 r2:=by decide
 rows:=fun k hk=>by
  have hk:k<1:=hk
  obtain rfl:k=0:=by omega
  exact⟨⟨qgl (by decide),by decide,by decide,fun k hk=>by
   have hk:k<4:=hk
   rcases (show k=0∨k=1∨k=2∨k=3 by omega) with rfl | rfl | rfl | rfl <;> decide,by decide,by decide,by decide⟩,rfl⟩
 apart:=fun i k h hi=>by
  have hi:i<1:=hi
  omega
theorem qdu:∀k,k<1→(four.getD k pt0).name.size≤1000∧(four.getD k pt0).dev.length≤1000:=fun k hk=>by
 obtain rfl:k=0:=by omega
 exact⟨(by decide:1≤1000),(by decide:4≤1000)⟩
theorem qm3:WOk [1]:=fun k hk=>by
 have hk:k<1:=hk
 obtain rfl:k=0:=by omega
 decide
theorem wok_last:WOk [0,0,1000]:=fun k hk=>by
 have hk:k<3:=hk
 rcases (show k=0∨k=1∨k=2 by omega) with rfl | rfl | rfl <;> decide
theorem qlD:Sing (many 1 (chans four)) (nq four 1 [1] 0):=⟨fun j=>if j=1 then 1 else 0,⟨1,by decide,by decide⟩,show ∀i,i<5→_ from by decide +kernel⟩
theorem qmr:Sing (many 1 (chans ramp)) (nq ramp 1 [0,0,1000] 0):=⟨fun j=>if j=0 then 1 else -1,⟨0,by decide,by decide⟩,show ∀i,i<2→_ from by decide +kernel⟩
abbrev Fails (w:World) (vs:Array Value) (c:Int):Prop:=Calls Tryz.prog 14 vs w fun e w'=>e=.returned (.tuple #[mdv0,.int .i64 c])∧Below w.heap.size w w'
theorem fk1 (w:World) (hT:HasT w):Fails w #[.slice none 0 0,.int .i64 0,.slice none 0 0] 310 :=
 (qgB 0 0 0 0 0 0 0 0 none none [] 0 [] w rfl (by decide) (fun k hk=>absurd hk (by omega)) rfl (by decide) (nil_p w) (nil_n w) hT).mono fun _ _ h=>h.patch qh1
theorem qhR {w:World} {kind:Int} {ws:List Int} {n g g2 c2:Nat} (hn:ws.length=n) (hn2:n≤1000) (hP:PCells w (some ⟨g,0,none⟩) g 0 ramp) (hN:w.heap[g2]? = some (.cells (ws.map fun z=>Value.int .i64 z).toArray 3 (0,0))) (hT:HasT w) (ha:¬((∃k,qch kind k)∧ws.length=3∧WOk ws)) :
  Fails w #[.slice (some ⟨g,0,none⟩) 3 3,.int .i64 kind,.slice (some ⟨g2,0,none⟩) n c2] 2 :=
 (qhQ w ramp 3 g 3 kind ws n g2 c2 hn hn2 rfl (by decide) qc5 hP hN hT).mono fun _ _ h=>h.arg qfR ha
theorem arg_kind:¬((∃k,qch 0 k)∧[(1:Int),1,1].length=3∧WOk [1,1,1]):=fun⟨⟨k,h⟩,_⟩=>by have:=h.1;have:=h.2;omega
theorem arg_two:¬((∃k,qch 1 k)∧[(1:Int),1].length=3∧WOk [1,1]):=fun⟨_,h,_⟩=>absurd h (by decide)
theorem arg_neg:¬((∃k,qch 1 k)∧[(1:Int),1,-1].length=3∧WOk [1,1,-1]):=fun⟨_,_,h⟩=>absurd (h 2 (by decide)) (by decide)
theorem arg_big:¬((∃k,qch 1 k)∧[(1:Int),1,1001].length=3∧WOk [1,1,1001]):=fun⟨_,_,h⟩=>absurd (h 2 (by decide)) (by decide)
theorem fk9 {w:World} {g g2 c2:Nat} (hP:PCells w (some ⟨g,0,none⟩) g 0 ramp) (hN:w.heap[g2]? = some (.cells #[.int .i64 0,.int .i64 0,.int .i64 1000] 3 (0,0))) (hT:HasT w):Fails w #[.slice (some ⟨g,0,none⟩) 3 3,.int .i64 1,.slice (some ⟨g2,0,none⟩) 3 c2] 7 :=
 (qhQ w ramp 3 g 3 1 [0,0,1000] 3 g2 c2 rfl (by decide) rfl (by decide) qc5 hP hN hT).mono fun _ _ h=>(h.sing qfR rfl wok_last kind1 (by decide) qmr).symm
theorem fk6 {w:World} {g c g2 c2:Nat} (hP:PCells w (some ⟨g,0,none⟩) g 0 four) (hN:w.heap[g2]? = some (.cells #[.int .i64 1] 3 (0,0))) (hT:HasT w):Fails w #[.slice (some ⟨g,0,none⟩) 1 c,.int .i64 3,.slice (some ⟨g2,0,none⟩) 1 c2] 5 :=
 (qhQ w four 1 g c 3 [1] 1 g2 c2 rfl (by decide) rfl (by decide) qdu hP hN hT).mono fun _ _ h=>h.form qhS rfl qm3 rfl
theorem fk7 {w:World} {g c:Nat} (hP:PCells w (some ⟨g,0,none⟩) g 0 four) (hT:HasT w):Fails w #[.slice (some ⟨g,0,none⟩) 1 c,.int .i64 3,.slice none 0 0] 2 :=
 (qgB 1 g 0 c 0 0 0 0 (some ⟨g,0,none⟩) none four 3 [] w rfl (by decide) (fun k hk=>⟨by have:=(qdu k hk).1;omega,by have:=(qdu k hk).2;omega⟩) rfl (by decide) hP (nil_n w) hT).mono fun _ _ h=>h.arg qhS fun⟨_,h,_⟩=>absurd h (by decide)
theorem fk8 {w:World} {g c g2 c2:Nat} (hP:PCells w (some ⟨g,0,none⟩) g 0 four) (hN:w.heap[g2]? = some (.cells #[.int .i64 1] 3 (0,0))) (hT:HasT w):Fails w #[.slice (some ⟨g,0,none⟩) 1 c,.int .i64 1,.slice (some ⟨g2,0,none⟩) 1 c2] 7 :=
 (qhQ w four 1 g c 1 [1] 1 g2 c2 rfl (by decide) rfl (by decide) qdu hP hN hT).mono fun _ _ h=>(h.sing qhS rfl qm3 kind1 (by decide) qlD).symm
theorem four_at {W:World} {s g:Nat} (h0:W.heap[s]? = some (.cells #[.int .i64 0,.int .i64 0,.int .i64 0,.int .i64 0] 3 (0,0))) (hg:W.heap[g]? = some (.cells #[.string ⟨#[97]⟩,.slice (some ⟨s,0,none⟩) 4 4,.int .i64 0,.int .i64 0,.int .i64 0] 55 (0,0))):PCells W (some ⟨g,0,none⟩) g 0 four:=by
 refine⟨fun _=>rfl,fun k hk=>?_⟩
 have hk:k<1:=hk
 obtain rfl:k=0:=by omega
 exact⟨qC _ _ 0 _ _ _ hg,⟨_,_,_,_,qC _ _ 1 _ _ _ hg,qcJ (ws:=[0,0,0,0]) h0⟩,qC _ _ 2 _ _ _ hg,qC _ _ 3 _ _ _ hg,qC _ _ 4 _ _ _ hg⟩
def goodX (c:Nat):Nat→Rat:=if c=0 then fv [1,2] else fv [0,0]
def bigX (c:Nat):Nat→Rat:=if c=0 then fv [100001,0] else fv [0,0]
def wideX (c:Nat):Nat→Rat:=if c=0 then fv [100000,-100000] else fv [0,0]
theorem qfC {X:Nat→Nat→Rat} (h:∀c,c<3→∀k,k<2→(X c k).num.natAbs≤1000000∧(X c k).den≤1000000):∀c,c<3→qbQ 2 (X c):=fun c hc k hk=>qdg (N:=1000000) (h c hc k hk) (by decide +kernel)
theorem qi8 {w:World} {kind:Int} {k:Nat} {dv:List Int} {l:List Rat} {n c2 g2 N:Nat} (hn:dv.length=n) (hk:qch kind k) (h1:1≤n) (h4:n≤4) (h3:¬(k=3∧n=4)) (hV:qcn dv) (hl:termL k dv=l) (hN:l.length=N) (hmN:many k n=N) (hr:w.heap[g2]? = some (.cells (dv.map fun z=>Value.int .i64 z).toArray 3 (0,0))) (hT:HasT w) :
  Calls Tryz.prog 25 #[.int .i64 kind,.slice (some ⟨g2,0,none⟩) n c2] w fun e w'=>∃(p:Option Addr) (g c:Nat),e=.returned (.tuple #[.slice p N c,.int .i64 0])∧FCells w' p g 0 (told N (fv l))∧Below w.heap.size w w':=by
 subst hn
 refine (qeS kind g2 0 dv.length c2 (some ⟨g2,0,none⟩) dv w rfl (by omega) (qcJ hr) hT).mono ?_
 rintro e w' ⟨hb,⟨v,rfl,_,_,_,k',hk',_,p,g,c,rfl,hF⟩ | ⟨c,rfl,h⟩⟩
 ·obtain rfl:=hk.uniq hk'
  rw [hmN]
  rw [qha hl hN] at hF
  exact⟨p,g,c,rfl,hF,hb⟩
 ·exfalso
  rcases h with ⟨h,_⟩ | ⟨_,⟨h,_⟩ | ⟨_,h,h',_⟩⟩
  ·exact h ⟨⟨k,hk⟩,h1,h4⟩
  ·exact h hV
  ·exact h3 ⟨hk.uniq h▸rfl,h'⟩
theorem qko {w:World} {kind:Int} {dv:List Int} {ao:Option Addr} {n c2 b off:Nat} {c:Int} (hn:dv.length=n) (hn2:n≤1000) (hN:NCells w ao b off dv) (hf:∀e,TmF kind dv e→e=c) (hg:¬∃k,qch kind k∧1≤n∧n≤4∧qcn dv∧¬(k=3∧n=4)) (hT:HasT w) :
  Calls Tryz.prog 25 #[.int .i64 kind,.slice ao n c2] w fun e w'=>e=.returned (.tuple #[.slice none 0 0,.int .i64 c])∧Below w.heap.size w w':=by
 subst hn
 refine (qeS kind b off dv.length c2 ao dv w rfl (by omega) hN hT).mono ?_
 rintro e w' ⟨hb,⟨v,rfl,h1,h4,hV,k',hk',h3,_⟩ | ⟨c',rfl,h⟩⟩
 ·exact absurd ⟨k',hk',h1,h4,hV,h3⟩ hg
 ·rw [hf _ h];exact⟨rfl,hb⟩
theorem qeE {w:World} {kind:Int} {dv:List Int} {ao:Option Addr} {n c2 b off:Nat} (hn:dv.length=n) (hn2:n≤1000) (hN:NCells w ao b off dv) (h:¬((∃k,qch kind k)∧1≤n∧n≤4∧qcn dv)) (hT:HasT w) :
  Calls Tryz.prog 25 #[.int .i64 kind,.slice ao n c2] w fun e w'=>e=.returned (.tuple #[.slice none 0 0,.int .i64 2])∧Below w.heap.size w w':=by
 refine qko hn hn2 hN (fun e he=>?_) (fun⟨k,h1,h2,h3,h4,_⟩=>h ⟨⟨k,h1⟩,h2,h3,h4⟩) hT
 rcases he with ⟨_,h⟩ | ⟨h1,⟨_,h⟩ | ⟨h2,_⟩⟩
 ·exact h
 ·exact h
 ·exact absurd ⟨h1.1,hn▸h1.2.1,hn▸h1.2.2,h2⟩ h
abbrev TNo (w:World) (vs:Array Value) (c:Int):Prop:=Calls Tryz.prog 25 vs w fun e w'=>e=.returned (.tuple #[.slice none 0 0,.int .i64 c])∧Below w.heap.size w w'
theorem tk1 {w:World} {g c:Nat} (hr:w.heap[g]? = some (.cells #[.int .i64 0] 3 (0,0))) (hT:HasT w):TNo w #[.int .i64 0,.slice (some ⟨g,0,none⟩) 1 c] 2 :=
 qeE (dv:=[0]) rfl (by decide) (qcJ hr) (fun⟨⟨k,h⟩,_⟩=>by have:=h.1;have:=h.2;omega) hT
theorem tk2 {w:World} (hT:HasT w):TNo w #[.int .i64 1,.slice none 0 0] 2 :=
 qeE (dv:=[]) rfl (by decide) (nil_n w) (fun⟨_,h,_⟩=>absurd h (by decide)) hT
theorem tk3 {w:World} {g c:Nat} (hr:w.heap[g]? = some (.cells #[.int .i64 0,.int .i64 0,.int .i64 0,.int .i64 0,.int .i64 0] 3 (0,0))) (hT:HasT w):TNo w #[.int .i64 3,.slice (some ⟨g,0,none⟩) 5 c] 2 :=
 qeE (dv:=[0,0,0,0,0]) rfl (by decide) (qcJ hr) (fun⟨_,_,h,_⟩=>absurd h (by decide)) hT
theorem tk4 {w:World} {g c:Nat} (hr:w.heap[g]? = some (.cells #[.int .i64 10001] 3 (0,0))) (hT:HasT w):TNo w #[.int .i64 1,.slice (some ⟨g,0,none⟩) 1 c] 2 :=
 qeE (dv:=[10001]) rfl (by decide) (qcJ hr) (fun⟨_,_,_,h⟩=>absurd (h 0 (by decide)) (by decide)) hT
theorem tk5 {w:World} {g c:Nat} (hr:w.heap[g]? = some (.cells #[.int .i64 0,.int .i64 0,.int .i64 0,.int .i64 (-1)] 3 (0,0))) (hT:HasT w):TNo w #[.int .i64 3,.slice (some ⟨g,0,none⟩) 4 c] 2 :=
 qeE (dv:=[0,0,0,-1]) rfl (by decide) (qcJ hr) (fun⟨_,_,_,h⟩=>absurd (h 3 (by decide)) (by decide)) hT
theorem qmZ:qcn [0,0,0,0]:=show ∀k,k<4→_ from by decide
theorem tk6 {w:World} {g c:Nat} (hr:w.heap[g]? = some (.cells #[.int .i64 0,.int .i64 0,.int .i64 0,.int .i64 0] 3 (0,0))) (hT:HasT w):TNo w #[.int .i64 3,.slice (some ⟨g,0,none⟩) 4 c] 5 :=
 qko (dv:=[0,0,0,0]) rfl (by decide) (qcJ hr) (fun e he=>by
  rcases he with ⟨h,_⟩ | ⟨_,⟨h,_⟩ | ⟨_,_,_,h⟩⟩
  ·exact absurd ⟨⟨3,kind3⟩,by decide,by decide⟩ h
  ·exact absurd qmZ h
  ·exact h) (fun⟨k,h,_,_,_,h3⟩=>h3 ⟨kind3.uniq h▸rfl,rfl⟩) hT
theorem tk7 {w:World} {g2 c2:Nat} (hr:w.heap[g2]? = some (.cells #[.int .i64 10000,.int .i64 1,.int .i64 0,.int .i64 0] 3 (0,0))) (hT:HasT w) :
  Calls Tryz.prog 25 #[.int .i64 1,.slice (some ⟨g2,0,none⟩) 4 c2] w fun e w'=>∃(p:Option Addr) (g c:Nat),e=.returned (.tuple #[.slice p 5 c,.int .i64 0])∧FCells w' p g 0 (told 5 (fv [1,1,1 / 10000,0,0]))∧Below w.heap.size w w' :=
 qi8 (dv:=[10000,1,0,0]) rfl kind1 (by decide) (by decide) (by decide) (show ∀k,k<4→_ from by decide) (by decide +kernel) rfl rfl hr hT
theorem tk8 {w:World} {g2 c2:Nat} (hr:w.heap[g2]? = some (.cells #[.int .i64 5000,.int .i64 2500,.int .i64 10000] 3 (0,0))) (hT:HasT w) :
  Calls Tryz.prog 25 #[.int .i64 3,.slice (some ⟨g2,0,none⟩) 3 c2] w fun e w'=>∃(p:Option Addr) (g c:Nat),e=.returned (.tuple #[.slice p 8 c,.int .i64 0])∧FCells w' p g 0 (told 8 (fv [1,1 / 2,1 / 4,1 / 8,1,1 / 2,1 / 4,1 / 8]))∧Below w.heap.size w w' :=
 qi8 (dv:=[5000,2500,10000]) rfl kind3 (by decide) (by decide) (by decide) (show ∀k,k<3→_ from by decide) (by decide +kernel) rfl rfl hr hT
theorem qet:MdOk (mdq 1 1 2 goodX) 1 1:=qiH (k:=1) (n:=1) (by decide) (by decide) (by decide) (by decide) (qfC (by decide +kernel))
theorem big_ok:MdOk (mdq 1 1 2 bigX) 1 1:=qiH (k:=1) (n:=1) (by decide) (by decide) (by decide) (by decide) (qfC (by decide +kernel))
theorem qid:MdOk (mdq 1 1 2 wideX) 1 1:=qiH (k:=1) (n:=1) (by decide) (by decide) (by decide) (by decide) (qfC (by decide +kernel))
theorem qhU:MdOk (mdq 3 1 2 goodX) 3 1:=qiH (k:=3) (n:=1) (by decide) (by decide) (by decide) (by decide) (qfC (by decide +kernel))
theorem qkF (w:World) (v:Value) (hM:MdAt w v (mdq 1 1 2 goodX)):Calls Tryz.prog 39 #[v] w fun e w'=>e=.returned (.int .i64 0)∧Below w.heap.size w w':=by
 refine (qdY _ v w hM (qdM (by decide))).mono ?_
 rintro e w' ⟨c,rfl,⟨rfl,_⟩ | ⟨_,h⟩,hb'⟩
 ·exact⟨rfl,hb'⟩
 ·exact absurd ⟨_,_,qet⟩ h
theorem md0_bad:¬qcp md0:=qjB (by decide)
theorem md0_at' (w:World):BadAt w mdv0:=⟨md0,ql3 w,fun q hq=>qaj (qjA q hq) (by decide),md0_bad⟩
theorem qhp (w:World) (v:Value) {ao:Option Addr} {b off n c:Nat} {dv:List Int} (hM:MdAt w v (mdq 1 1 2 goodX)) (hn:dv.length=n) (hn2:n≤1000) (hN:NCells w ao b off dv) (hT:HasT w) (h:¬(dv.length=1∧qcn dv)) :
  Calls Tryz.prog 22 #[v,.slice ao n c] w fun e w'=>e=.returned (.tuple #[.agg #[.string ⟨#[]⟩,.string ⟨#[]⟩,.string ⟨#[]⟩,.string ⟨#[]⟩,.string ⟨#[]⟩,.string ⟨#[]⟩],.int .i64 2])∧Below w.heap.size w w':=by
 refine (qgu _ v n b off c ao dv w hM hn (by omega) (qdM (by decide)) hN hT).mono ?_
 rintro e w' ⟨hb',⟨v,rfl,hV,kk,hk,_⟩ | ⟨c,rfl,⟨hs,_⟩ | ⟨_,_,rfl⟩ | ⟨hV,_,kk,hk,_⟩⟩⟩
 ·exact absurd ⟨(qet.uniq hk).2,hV⟩ h
 ·exact absurd ⟨_,_,qet⟩ hs
 ·exact⟨rfl,hb'⟩
 ·exact absurd ⟨(qet.uniq hk).2,hV⟩ h
theorem qlI (w:World) (v:Value) (hM:MdAt w v (mdq 1 1 2 goodX)) (hT:HasT w):Calls Tryz.prog 21 #[v,.slice none 0 0] w fun e w'=>e=.returned (.tuple #[.slice none 0 0,.int .i64 310])∧Below w.heap.size w w':=by
 refine (qei _ v 0 0 0 0 none [] w hM rfl (by decide) (fun k hk=>absurd hk (by omega)) (qdM (by decide)) (nil_p w) hT).mono ?_
 rintro e w' ⟨hb',⟨v,rfl,h,_⟩ | ⟨c,rfl,⟨h,_⟩ | ⟨_,_,rfl⟩ | ⟨_,h,_⟩ | ⟨h,_⟩⟩⟩
 ·exact absurd h qh1
 ·exact absurd ⟨_,_,qet⟩ h
 ·exact⟨rfl,hb'⟩
 ·exact absurd h qh1
 ·exact absurd h qh1
theorem qlJ (w:World) (v:Value) {g c:Nat} (hM:MdAt w v (mdq 1 1 2 goodX)) (hP:PCells w (some ⟨g,0,none⟩) g 0 four) (hT:HasT w):Calls Tryz.prog 21 #[v,.slice (some ⟨g,0,none⟩) 1 c] w fun e w'=>e=.returned (.tuple #[.slice none 0 0,.int .i64 5])∧Below w.heap.size w w':=by
 refine (qei _ v 1 g 0 c (some ⟨g,0,none⟩) four w hM rfl (by decide) (fun k hk=>⟨by have:=(qdu k hk).1;omega,by have:=(qdu k hk).2;omega⟩) (qdM (by decide)) hP hT).mono ?_
 rintro e w' ⟨hb',⟨v,rfl,_,kk,h,_⟩ | ⟨c,rfl,⟨h,_⟩ | ⟨_,h,_⟩ | ⟨_,_,_,rfl⟩ | ⟨_,_,kk,h,_⟩⟩⟩
 ·exact absurd (qet.uniq h).2 (by decide)
 ·exact absurd ⟨_,_,qet⟩ h
 ·exact absurd qhS h
 ·exact⟨rfl,hb'⟩
 ·exact absurd (qet.uniq h).2 (by decide)
theorem good_el3 (w:World) (v:Value) (hM:MdAt w v (mdq 3 1 2 goodX)) (hT:HasT w) (hE:HasE w):Calls Tryz.prog 28 #[v] w fun e w'=>e=.returned (.tuple #[elv0,.int .i64 5])∧Below w.heap.size w w':=by
 refine (qdw _ v w hM (qdM (by decide)) hT hE).mono ?_
 rintro e w' ⟨hb',⟨v,rfl,n,h,_⟩ | ⟨c,rfl,⟨h,_⟩ | ⟨_,_,rfl⟩ | ⟨n,h,_⟩⟩⟩
 ·exact absurd (qhU.uniq h).1 (by decide)
 ·exact absurd ⟨_,_,qhU⟩ h
 ·exact⟨rfl,hb'⟩
 ·exact absurd (qhU.uniq h).1 (by decide)
theorem qhP {X:Nat→Nat→Rat} {c k:Nat} (hc:c<3) (hk:k<2):elz (mdq 1 1 2 X) c k=nearT (X c k) (elN c) (elD c)+(if k=0 then elM c else 0):=by
 unfold elz;rw [qfM hc,qcO hk]
instance (z:Int):Decidable (qgt z):=inferInstanceAs (Decidable (_∧_))
theorem big_far:¬ElOk (mdq 1 1 2 bigX) 1:=fun h=>absurd (h 0 (by decide) 0 (by decide)) (by rw [qhP (by decide) (by decide)];decide +kernel)
theorem big_el (w:World) (v:Value) (hM:MdAt w v (mdq 1 1 2 bigX)) (hT:HasT w) (hE:HasE w):Calls Tryz.prog 28 #[v] w fun e w'=>e=.returned (.tuple #[elv0,.int .i64 6])∧Below w.heap.size w w':=by
 refine (qdw _ v w hM (qdM (by decide)) hT hE).mono ?_
 rintro e w' ⟨hb',⟨v,rfl,n,h,h2,_⟩ | ⟨c,rfl,⟨h,_⟩ | ⟨_,h,_⟩ | ⟨n,_,_,rfl⟩⟩⟩
 ·obtain rfl:=(big_ok.uniq h).2
  exact absurd h2 big_far
 ·exact absurd ⟨_,_,big_ok⟩ h
 ·exact absurd rfl h
 ·exact⟨rfl,hb'⟩
theorem wide_elz:∀c,c<3→∀k,k<2→qgt (elz (mdq 1 1 2 wideX) c k):=fun c hc k hk=>by
 rw [qhP hc hk]
 revert c k
 decide +kernel
theorem wide_el (w:World) (v:Value) (hM:MdAt w v (mdq 1 1 2 wideX)) (hT:HasT w) (hE:HasE w):Calls Tryz.prog 28 #[v] w fun e w'=>∃(gr cr g0 c0 go co:Nat),
  e=.returned (.tuple #[.agg #[.int .i64 2,.slice none 0 0,.slice (some ⟨gr,0,none⟩) 3 cr,.slice (some ⟨go,0,none⟩) 3 co,.slice none 0 0,.int .i64 0,.slice none 0 0,.slice none 0 0,.int .i64 0,.int .i64 0],.int .i64 0]) ∧
  (w'.cell? ⟨gr,0,none⟩=some (.slice (some ⟨g0,0,none⟩) 1 c0)∧w'.cell? ⟨g0,0,none⟩=some (.int .i64 (-1000000000))∧w'.cell? ⟨go,0,none⟩=some (.int .i64 1000000000))∧Below w.heap.size w w':=by
 refine (qdw _ v w hM (qdM (by decide)) hT hE).mono ?_
 rintro e w' ⟨hb,⟨v,rfl,n,h1,_,B,vr,vo,rfl,ho,vs,hr,hv⟩ | ⟨c,rfl,h⟩⟩
 ·obtain rfl:=(qid.uniq h1).2
  have e0:(elOff (mdq 1 1 2 wideX) 3).getD 0 0=1000000000:=by
   show elz _ 0 0=_
   rw [qhP (by decide) (by decide)];decide +kernel
  have e1:(elRow (mdq 1 1 2 wideX) 1 0).getD 0 0 = -1000000000:=by
   show elz _ 0 1=_
   rw [qhP (by decide) (by decide)];decide +kernel
  have h0:=(hv 0 (by decide)).1
  obtain⟨go,co,rfl,hNo⟩:=IOwn.cells ho (by decide)
  obtain⟨gr,cr,rfl,hcr⟩:=qhD hr (by decide)
  obtain⟨g0,c0,hg0,hN0⟩:=IOwn.cells h0 (by decide)
  have r0:=hcr 0 (by decide)
  rw [hg0] at r0
  have a0:=hN0.cell 0 (by decide)
  have a1:=hNo.cell 0 (by decide)
  rw [e1] at a0
  rw [e0] at a1
  exact⟨gr,cr,g0,c0,go,co,rfl,⟨r0,a0,a1⟩,hb⟩
 ·exfalso
  rcases h with ⟨h,_⟩ | ⟨_,h,_⟩ | ⟨n,h1,h2,_⟩
  ·exact h ⟨_,_,qid⟩
  ·exact h rfl
  ·obtain rfl:=(qid.uniq h1).2
   exact h2 wide_elz
theorem num_5:num 10000=⟨#[49,48,48,48,48]⟩:=by
 unfold num;rw [qbS (by decide),qbS (by decide),qbS (by decide),qbS (by decide),qbR (by decide)];rfl
theorem num_6:num 100000=⟨#[49,48,48,48,48,48]⟩:=by
 unfold num;rw [qbS (by decide),qbS (by decide),qbS (by decide),qbS (by decide),qbS (by decide),qbR (by decide)];rfl
theorem num_61:num 100001=⟨#[49,48,48,48,48,49]⟩:=by
 unfold num;rw [qbS (by decide),qbS (by decide),qbS (by decide),qbS (by decide),qbS (by decide),qbR (by decide)];rfl
theorem ft_18:ftxt (1 / 8)=(⟨#[49]⟩,⟨#[56]⟩):=qeJ 1 8 (by decide +kernel) (by decide +kernel) (by decide) (by decide)
theorem ft_1t:ftxt (1 / 10000)=(⟨#[49]⟩,⟨#[49,48,48,48,48]⟩):=by rw [ft_of 1 10000 (by decide +kernel) (by decide +kernel),qdr (by decide),num_5];rfl
theorem ft_61:ftxt 100001=(⟨#[49,48,48,48,48,49]⟩,⟨#[49]⟩):=by rw [ft_of 100001 1 (by decide +kernel) (by decide +kernel),num_61,qdr (by decide)];rfl
theorem ft_60:ftxt 100000=(⟨#[49,48,48,48,48,48]⟩,⟨#[49]⟩):=by rw [ft_of 100000 1 (by decide +kernel) (by decide +kernel),num_6,qdr (by decide)];rfl
theorem ft_m60:ftxt (-100000)=(⟨#[45,49,48,48,48,48,48]⟩,⟨#[49]⟩):=by
 unfold ftxt
 rw [show ((-100000:Rat)).num = -100000 by decide +kernel,show ((-100000:Rat)).den=1 by decide +kernel,frac.qfJ (by decide),show ((-100000:Int)).natAbs=100000 from rfl,num_6,qdr (by decide)]
 rfl
theorem qkU (k:Nat) (x:FT):reps k [.string x.1,.string x.2]=fflat (List.replicate k x):=by
 induction k with
 | zero=>rfl
 | succ k ih =>
  unfold reps at *
  rw [qbe,List.flatten_cons,ih,qbe];rfl
theorem qgW {w:World} {g c:Nat} {q:Rat} (hF:FCells w (some ⟨g,0,none⟩) g 0 (told 1 (fv [q]))) :
  Calls Tryz.prog 44 #[.slice (some ⟨g,0,none⟩) 1 c,.int .i64 16] w fun e w'=>∃gn,e=.returned (.slice (some ⟨gn,0,none⟩) 16 16)∧FCells w' (some ⟨gn,0,none⟩) gn 0 (List.replicate 16 (ftxt q))∧Below w.heap.size w w':=by
 refine (qiX g 0 c [.string (ftxt q).1,.string (ftxt q).2] w rfl (fun v hv=>?_) (hF.src)).mono ?_
 ·rcases qaL.1 hv with rfl | hv
  ·rfl
  ·rw [qaq.1 hv];rfl
 rintro e w' ⟨gn,rfl,hr,hb⟩
 rw [qkU] at hr
 exact⟨gn,rfl,FCells.ofRow hr,hb⟩
theorem qk_at (n:Nat) {w:World} {g:Nat} {L:List ByteArray} {l:List Rat} (hs:SCells w g 0 L) (hL:L.length=n) (hl:l.length=n) (h0:0<n) (hn:n≤1000) (h:L.map qf=l.map ftxt) (hz:∀s∈L,s.size≤65536) :
  Calls Tryz.prog 24 #[.slice (some ⟨g,0,none⟩) n n] w fun e w'=>∃g c,e=.returned (.slice (some ⟨g,0,none⟩) n c)∧FCells w' (some ⟨g,0,none⟩) g 0 (told n (fv l))∧Below w.heap.size w w':=by
 refine (q_at n hs hL hl hn h hz).mono ?_
 rintro e w' ⟨ao,g,c,rfl,hF,hb⟩
 have ha:=hF.addr (by rw [qbM];exact h0)
 subst ha
 exact⟨g,c,rfl,hF,hb⟩
theorem qgG {W:World} {a0 a1 a2:Option Addr} {g0 g1 g2 c0 c1 c2:Nat} (h0:FCells W a0 g0 0 (told 2 (fv [1,2]))) (h1:FCells W a1 g1 0 (told 2 (fv [0,0]))) (h2:FCells W a2 g2 0 (told 2 (fv [0,0]))):MdAt W (.agg #[.int .i64 1,.int .i64 1,.slice a0 2 c0,.slice a1 2 c1,.slice a2 2 c2]) (mdq 1 1 2 goodX) :=
 MdAt.of (k:=1) (n:=1) h0 h1 h2
theorem good3_at {W:World} {a0 a1 a2:Option Addr} {g0 g1 g2 c0 c1 c2:Nat} (h0:FCells W a0 g0 0 (told 2 (fv [1,2]))) (h1:FCells W a1 g1 0 (told 2 (fv [0,0]))) (h2:FCells W a2 g2 0 (told 2 (fv [0,0]))):MdAt W (.agg #[.int .i64 3,.int .i64 1,.slice a0 2 c0,.slice a1 2 c1,.slice a2 2 c2]) (mdq 3 1 2 goodX) :=
 MdAt.of (k:=3) (n:=1) h0 h1 h2
theorem big_at {W:World} {a0 a1 a2:Option Addr} {g0 g1 g2 c0 c1 c2:Nat} (h0:FCells W a0 g0 0 (told 2 (fv [100001,0]))) (h1:FCells W a1 g1 0 (told 2 (fv [0,0]))) (h2:FCells W a2 g2 0 (told 2 (fv [0,0]))):MdAt W (.agg #[.int .i64 1,.int .i64 1,.slice a0 2 c0,.slice a1 2 c1,.slice a2 2 c2]) (mdq 1 1 2 bigX) :=
 MdAt.of (k:=1) (n:=1) h0 h1 h2
theorem wide_at {W:World} {a0 a1 a2:Option Addr} {g0 g1 g2 c0 c1 c2:Nat} (h0:FCells W a0 g0 0 (told 2 (fv [100000,-100000]))) (h1:FCells W a1 g1 0 (told 2 (fv [0,0]))) (h2:FCells W a2 g2 0 (told 2 (fv [0,0]))):MdAt W (.agg #[.int .i64 1,.int .i64 1,.slice a0 2 c0,.slice a1 2 c1,.slice a2 2 c2]) (mdq 1 1 2 wideX) :=
 MdAt.of (k:=1) (n:=1) h0 h1 h2
theorem qgv {W:World} {k i:Int} {a b c:List FT} {n0 n1 n2:Nat} {a0 a1 a2:Option Addr} {g0 g1 g2 c0 c1 c2:Nat} (h0:FCells W a0 g0 0 a) (h1:FCells W a1 g1 0 b) (h2:FCells W a2 g2 0 c) (e0:a.length=n0) (e1:b.length=n1) (e2:c.length=n2) (hn:n0≤1000∧n1≤1000∧n2≤1000) (h:¬qcp ⟨k,i,a,b,c⟩) :
  BadAt W (.agg #[.int .i64 k,.int .i64 i,.slice a0 n0 c0,.slice a1 n1 c1,.slice a2 n2 c2]):=by
 subst e0 e1 e2
 refine⟨⟨k,i,a,b,c⟩,⟨a0,a1,a2,g0,0,c0,g1,0,c1,g2,0,c2,rfl,h0,h1,h2⟩,fun q hq=>?_,h⟩
 rcases (show q=0∨q=1∨q=2 by omega) with rfl | rfl | rfl
 ·show a.length≤_;omega
 ·show b.length≤_;omega
 ·show c.length≤_;omega
def sevenV (s0 s1 s2 x0 x1 x2 y0 y1 y2:Value):Value:=.agg #[.int .i64 4,.int .i64 1,s0,s1,s2,.int .i64 0,.int .i64 1,s0,s1,s2,.int .i64 1,.int .i64 2,s0,s1,s2,.int .i64 1,.int .i64 0,s0,s1,s2,.int .i64 1,.int .i64 5,s0,s1,s2,.int .i64 3,.int .i64 4,x0,x1,x2,.int .i64 1,.int .i64 1,y0,y1,y2]
structure Seven (s0 s1 s2 x0 x1 x2 y0 y1 y2:Value) (W:World):Prop where
 b0:BadAt W (.agg #[.int .i64 4,.int .i64 1,s0,s1,s2])
 b1:BadAt W (.agg #[.int .i64 0,.int .i64 1,s0,s1,s2])
 b2:BadAt W (.agg #[.int .i64 1,.int .i64 2,s0,s1,s2])
 b3:BadAt W (.agg #[.int .i64 1,.int .i64 0,s0,s1,s2])
 b4:BadAt W (.agg #[.int .i64 1,.int .i64 5,s0,s1,s2])
 b5:BadAt W (.agg #[.int .i64 3,.int .i64 4,x0,x1,x2])
 b6:BadAt W (.agg #[.int .i64 1,.int .i64 1,y0,y1,y2])
theorem Seven.below {s0 s1 s2 x0 x1 x2 y0 y1 y2:Value} {W W':World} (h:Seven s0 s1 s2 x0 x1 x2 y0 y1 y2 W) (hb:Below W.heap.size W W'):Seven s0 s1 s2 x0 x1 x2 y0 y1 y2 W' :=
 ⟨h.b0.below hb,h.b1.below hb,h.b2.below hb,h.b3.below hb,h.b4.below hb,h.b5.below hb,h.b6.below hb⟩
theorem five_bad {W:World} {a0 a1 a2:Option Addr} {g0 g1 g2 c0 c1 c2:Nat} (h0:FCells W a0 g0 0 (told 2 (fv [1,2]))) (h1:FCells W a1 g1 0 (told 2 (fv [0,0]))) (h2:FCells W a2 g2 0 (told 2 (fv [0,0]))) {x0 x1 x2 y0 y1 y2:Value}
  (h5:BadAt W (.agg #[.int .i64 3,.int .i64 4,x0,x1,x2])) (h6:BadAt W (.agg #[.int .i64 1,.int .i64 1,y0,y1,y2])):Seven (.slice a0 2 c0) (.slice a1 2 c1) (.slice a2 2 c2) x0 x1 x2 y0 y1 y2 W where
 b0:=qgv h0 h1 h2 (qbM _ _) (qbM _ _) (qbM _ _) (by decide) (qjB (by decide))
 b1:=qgv h0 h1 h2 (qbM _ _) (qbM _ _) (qbM _ _) (by decide) (qjB (by decide))
 b2:=qgv h0 h1 h2 (qbM _ _) (qbM _ _) (qbM _ _) (by decide) (md_many (by rw [qbM];decide))
 b3:=qgv h0 h1 h2 (qbM _ _) (qbM _ _) (qbM _ _) (by decide) (md_inn (by decide))
 b4:=qgv h0 h1 h2 (qbM _ _) (qbM _ _) (qbM _ _) (by decide) (md_inn (by decide))
 b5:=h5
 b6:=h6
theorem qjH {s0 s1 s2 x0 x1 x2 y0 y1 y2:Value} {W:World} (h:Seven s0 s1 s2 x0 x1 x2 y0 y1 y2 W) {j:Nat} (hj:j<7) :
  ∃(k i:Int) (z0 z1 z2:Value),(∀W,(Instr.index 102 (sevenV s0 s1 s2 x0 x1 x2 y0 y1 y2) (.int .i64 (j:Int))).run Tryz.prog W=.ok (.agg #[.int .i64 k,.int .i64 i,z0,z1,z2]) W)∧BadAt W (.agg #[.int .i64 k,.int .i64 i,z0,z1,z2]):=by
 rcases (show j=0∨j=1∨j=2∨j=3∨j=4∨j=5∨j=6 by omega) with rfl | rfl | rfl | rfl | rfl | rfl | rfl
 ·exact⟨4,1,s0,s1,s2,fun W=>by kernel_rfl,h.b0⟩
 ·exact⟨0,1,s0,s1,s2,fun W=>by kernel_rfl,h.b1⟩
 ·exact⟨1,2,s0,s1,s2,fun W=>by kernel_rfl,h.b2⟩
 ·exact⟨1,0,s0,s1,s2,fun W=>by kernel_rfl,h.b3⟩
 ·exact⟨1,5,s0,s1,s2,fun W=>by kernel_rfl,h.b4⟩
 ·exact⟨3,4,x0,x1,x2,fun W=>by kernel_rfl,h.b5⟩
 ·exact⟨1,1,y0,y1,y2,fun W=>by kernel_rfl,h.b6⟩
theorem eq_3e (w:World):(Op.equalIn 10000 65 (.agg #[.string ⟨#[]⟩,.string ⟨#[]⟩,.string ⟨#[]⟩,.string ⟨#[]⟩,.string ⟨#[]⟩,.string ⟨#[]⟩]) (.agg #[.string ⟨#[]⟩,.string ⟨#[]⟩,.string ⟨#[]⟩,.string ⟨#[]⟩,.string ⟨#[]⟩,.string ⟨#[]⟩])).run Tryz.prog w=.ok true w:=by kernel_rfl
def SK (L:List ByteArray) (m:Nat) (z:Value) (W:World):Prop:=∃g:Nat,z=.slice (some ⟨g,0,none⟩) m m∧SCells W g 0 L
def QK (l:List Rat) (m:Nat) (z:Value) (W:World):Prop:=∃g c:Nat,z=.slice (some ⟨g,0,none⟩) m c∧FCells W (some ⟨g,0,none⟩) g 0 (told m (fv l))
def FK (l:List FT) (m:Nat) (z:Value) (W:World):Prop:=∃g:Nat,z=.slice (some ⟨g,0,none⟩) m m∧FCells W (some ⟨g,0,none⟩) g 0 l
def BK (k i:Int) (z:Value) (W:World):Prop:=∃x0 x1 x2:Value,z=.agg #[.int .i64 k,.int .i64 i,x0,x1,x2]∧BadAt W (.agg #[.int .i64 k,.int .i64 i,x0,x1,x2])
def RK (z:Value) (W:World):Prop:=∃g0 g1 g2:Nat,z=.agg #[.slice (some ⟨g0,0,none⟩) 16 16,.slice (some ⟨g1,0,none⟩) 16 16,.slice (some ⟨g2,0,none⟩) 16 16]∧FCells W (some ⟨g0,0,none⟩) g0 0 (List.replicate 16 (ftxt 0))∧FCells W (some ⟨g1,0,none⟩) g1 0 (List.replicate 16 (ftxt 0))∧FCells W (some ⟨g2,0,none⟩) g2 0 (List.replicate 16 (ftxt 0))
def UK (z:Value) (W:World):Prop:=∃g0 c0 g1 c1 g2:Nat,z=.agg #[.slice (some ⟨g0,0,none⟩) 2 c0,.slice (some ⟨g1,0,none⟩) 2 c1,.slice (some ⟨g2,0,none⟩) 2 2]∧FCells W (some ⟨g0,0,none⟩) g0 0 (told 2 (fv [1,2]))∧FCells W (some ⟨g1,0,none⟩) g1 0 (told 2 (fv [0,0]))∧FCells W (some ⟨g2,0,none⟩) g2 0 [fd0,fd0]
def VK (s0 s1 s2:Value) (z:Value) (W:World):Prop:=∃x0 x1 x2 y0 y1 y2:Value,z=sevenV s0 s1 s2 x0 x1 x2 y0 y1 y2∧BadAt W (.agg #[.int .i64 3,.int .i64 4,x0,x1,x2])∧BadAt W (.agg #[.int .i64 1,.int .i64 1,y0,y1,y2])
instance stays_sk {L:List ByteArray} {m:Nat} {z:Value}:Stays (SK L m z):=⟨fun⟨g,h1,h2⟩ hb=>⟨g,h1,h2.below hb⟩⟩
instance stays_qk {l:List Rat} {m:Nat} {z:Value}:Stays (QK l m z):=⟨fun⟨g,c,h1,h2⟩ hb=>⟨g,c,h1,h2.below hb⟩⟩
instance stays_fk {l:List FT} {m:Nat} {z:Value}:Stays (FK l m z):=⟨fun⟨g,h1,h2⟩ hb=>⟨g,h1,h2.below hb⟩⟩
instance stays_bk {k i:Int} {z:Value}:Stays (BK k i z):=⟨fun⟨x0,x1,x2,h1,h2⟩ hb=>⟨x0,x1,x2,h1,h2.below hb⟩⟩
instance stays_rk {z:Value}:Stays (RK z):=⟨fun⟨g0,g1,g2,h,h0,h1,h2⟩ hb=>⟨g0,g1,g2,h,h0.below hb,h1.below hb,h2.below hb⟩⟩
instance stays_uk {z:Value}:Stays (UK z):=⟨fun⟨g0,c0,g1,c1,g2,h,h0,h1,h2⟩ hb=>⟨g0,c0,g1,c1,g2,h,h0.below hb,h1.below hb,h2.below hb⟩⟩
instance stays_vk {s0 s1 s2 z:Value}:Stays (VK s0 s1 s2 z):=⟨fun⟨x0,x1,x2,y0,y1,y2,h,h0,h1⟩ hb=>⟨x0,x1,x2,y0,y1,y2,h,h0.below hb,h1.below hb⟩⟩
theorem BadAt.slices {W:World} {k i:Int} {z0 z1 z2:Value} (h:BadAt W (.agg #[.int .i64 k,.int .i64 i,z0,z1,z2])):∃(a0:Option Addr) (n0 c0:Nat) (a1:Option Addr) (n1 c1:Nat) (a2:Option Addr) (n2 c2:Nat),z0=.slice a0 n0 c0∧z1=.slice a1 n1 c1∧z2=.slice a2 n2 c2:=by
 obtain⟨m,⟨a0,a1,a2,b0,o0,c0,b1,o1,c1,b2,o2,c2,e,_⟩,_⟩:=h
 simp only [qaT,qaX,qaR,and_true] at e
 exact⟨_,_,_,_,_,_,_,_,_,e.2.2.1,e.2.2.2.1,e.2.2.2.2⟩
theorem tnoA {W:World} {o:Obj} {vs:Array Value} {c:Int} (h:TNo (W.alloc o) vs c):Calls Tryz.prog 25 vs (W.alloc o) fun e w'=>e=.returned (.tuple #[.slice none 0 0,.int .i64 c])∧Below W.heap.size W w':=h.mono fun _ _ h=>⟨h.1,qck h.2⟩
theorem failA {W:World} {o:Obj} {vs:Array Value} {c:Int} (h:Fails (W.alloc o) vs c):Calls Tryz.prog 14 vs (W.alloc o) fun e w'=>e=.returned (.tuple #[mdv0,.int .i64 c])∧Below W.heap.size W w':=h.mono fun _ _ h=>⟨h.1,qck h.2⟩
theorem rowA (W:World) (cs:Array Value) (t:TypeId):(W.alloc (.cells cs t)).heap[W.heap.size]? = some (.cells cs t (0,0)):=qM _ _ _ rfl
theorem tk7A {W:World} (hT:HasT W):Calls Tryz.prog 25 #[.int .i64 1,.slice (some ⟨W.heap.size,0,none⟩) 4 4] (W.alloc (.cells #[.int .i64 10000,.int .i64 1,.int .i64 0,.int .i64 0] 3)) fun e w'=>∃(p:Option Addr) (g c:Nat),e=.returned (.tuple #[.slice p 5 c,.int .i64 0])∧FCells w' p g 0 (told 5 (fv [1,1,1 / 10000,0,0]))∧Below W.heap.size W w' :=
 (tk7 (rowA _ _ _) (hT.below (alloc_old _ _))).mono fun _ _ ⟨p,g,c,h1,h2,h3⟩=>⟨p,g,c,h1,h2,qck h3⟩
theorem tk8A {W:World} (hT:HasT W):Calls Tryz.prog 25 #[.int .i64 3,.slice (some ⟨W.heap.size,0,none⟩) 3 3] (W.alloc (.cells #[.int .i64 5000,.int .i64 2500,.int .i64 10000] 3)) fun e w'=>∃(p:Option Addr) (g c:Nat),e=.returned (.tuple #[.slice p 8 c,.int .i64 0])∧FCells w' p g 0 (told 8 (fv [1,1 / 2,1 / 4,1 / 8,1,1 / 2,1 / 4,1 / 8]))∧Below W.heap.size W w' :=
 (tk8 (rowA _ _ _) (hT.below (alloc_old _ _))).mono fun _ _ ⟨p,g,c,h1,h2,h3⟩=>⟨p,g,c,h1,h2,qck h3⟩
theorem qlH (W:World) (v:Value) (hM:MdAt W v (mdq 1 1 2 goodX)) (hT:HasT W):Calls Tryz.prog 22 #[v,.slice (some ⟨W.heap.size,0,none⟩) 2 2] (W.alloc (.cells #[.int .i64 0,.int .i64 0] 3)) fun e w'=>e=.returned (.tuple #[.agg #[.string ⟨#[]⟩,.string ⟨#[]⟩,.string ⟨#[]⟩,.string ⟨#[]⟩,.string ⟨#[]⟩,.string ⟨#[]⟩],.int .i64 2])∧Below W.heap.size W w' :=
 (qhp _ v (dv:=[0,0]) (hM.below (alloc_old _ _)) rfl (by decide) (qcJ (rowA _ _ _)) (hT.below (alloc_old _ _)) fun h=>absurd h.1 (by decide)).mono fun _ _ h=>⟨h.1,qck h.2⟩
theorem qlG (W:World) (v:Value) (hM:MdAt W v (mdq 1 1 2 goodX)) (hT:HasT W):Calls Tryz.prog 22 #[v,.slice (some ⟨W.heap.size,0,none⟩) 1 1] (W.alloc (.cells #[.int .i64 10001] 3)) fun e w'=>e=.returned (.tuple #[.agg #[.string ⟨#[]⟩,.string ⟨#[]⟩,.string ⟨#[]⟩,.string ⟨#[]⟩,.string ⟨#[]⟩,.string ⟨#[]⟩],.int .i64 2])∧Below W.heap.size W w' :=
 (qhp _ v (dv:=[10001]) (hM.below (alloc_old _ _)) rfl (by decide) (qcJ (rowA _ _ _)) (hT.below (alloc_old _ _)) fun h=>absurd (h.2 0 (by decide)) (by decide)).mono fun _ _ h=>⟨h.1,qck h.2⟩
theorem FCells.set {W:World} {ao:Option Addr} {b off:Nat} {l:List FT} (h:FCells W ao b off l) {p:Addr} {a:Option Addr} {n c:Nat} (hc:W.cell? p=some (.slice a n c)) (u:Value):FCells (W.setCell p u) ao b off l :=
 ⟨h.addr,fun k hk=>⟨qgo hc (fun s h=>by cases h) _ _ (h.cell k hk).1,qgo hc (fun s h=>by cases h) _ _ (h.cell k hk).2⟩⟩
theorem ql6 {W:World} {g:Nat} {k i:Int} {s0 s1 s2:Value} {t:TypeId} (h:W.heap[g]? = some (.cells #[.int .i64 k,.int .i64 i,s0,s1,s2] t (0,0))) (u:Value) :
  (W.setCell ⟨g,2,none⟩ u).cell? ⟨g,0,none⟩=some (.int .i64 k)∧(W.setCell ⟨g,2,none⟩ u).cell? ⟨g,1,none⟩=some (.int .i64 i)∧(W.setCell ⟨g,2,none⟩ u).cell? ⟨g,2,none⟩=some u∧(W.setCell ⟨g,2,none⟩ u).cell? ⟨g,3,none⟩=some s1∧(W.setCell ⟨g,2,none⟩ u).cell? ⟨g,4,none⟩=some s2:=by
 refine⟨?_,?_,World.cell?_setCell_same _ _ _ (qC _ _ 2 _ _ _ h),?_,?_⟩
 ·rw [World.cell?_setCell_other (h:=by simp)];exact qC _ _ 0 _ _ _ h
 ·rw [World.cell?_setCell_other (h:=by simp)];exact qC _ _ 1 _ _ _ h
 ·rw [World.cell?_setCell_other (h:=by simp)];exact qC _ _ 3 _ _ _ h
 ·rw [World.cell?_setCell_other (h:=by simp)];exact qC _ _ 4 _ _ _ h
theorem row5 {W:World} {g:Nat} {v0 v1 v2 v3 v4:Value} {t:TypeId} (h:W.heap[g]? = some (.cells #[v0,v1,v2,v3,v4] t (0,0))):W.cell? ⟨g,0,none⟩=some v0∧W.cell? ⟨g,1,none⟩=some v1∧W.cell? ⟨g,2,none⟩=some v2∧W.cell? ⟨g,3,none⟩=some v3∧W.cell? ⟨g,4,none⟩=some v4 :=
 ⟨qC _ _ 0 _ _ _ h,qC _ _ 1 _ _ _ h,qC _ _ 2 _ _ _ h,qC _ _ 3 _ _ _ h,qC _ _ 4 _ _ _ h⟩
structure FkSt (w0 W:World) (b:Nat) (a1 a2 a3:Option Addr) (g1 g2 g3 c1 c2 c3:Nat):Prop where
 kb:Below w0.heap.size w0 W
 kt:HasT W
 ke:HasE W
 q1:FCells W a1 g1 0 (told 2 (fv [1,2]))
 q2:FCells W a2 g2 0 (told 2 (fv [0,0]))
 q3:FCells W a3 g3 0 (told 2 (fv [0,0]))
 rm:W.heap[b]? = some (.cells #[.int .i64 1,.int .i64 1,.slice a1 2 c1,.slice a2 2 c2,.slice a3 2 c3] 38 (0,0))
theorem FkSt.below {w0 W W':World} {b:Nat} {a1 a2 a3:Option Addr} {g1 g2 g3 c1 c2 c3:Nat} (h:FkSt w0 W b a1 a2 a3 g1 g2 g3 c1 c2 c3) (hb:Below W.heap.size W W'):FkSt w0 W' b a1 a2 a3 g1 g2 g3 c1 c2 c3 :=
 ⟨h.kb.trans (hb.mono h.kb.size),h.kt.below hb,h.ke.below hb,h.q1.below hb,h.q2.below hb,h.q3.below hb,zkeep hb _ _ h.rm⟩
end Go.Proofs.YtplkdeknjghobaaGreatDoor
namespace Go.Proofs.YtplkdeknjghobaaGreatDoor
open Go.RowKit
theorem qiv (w0:World) (hT:HasT w0) (hE:HasE w0):Calls Tryz.prog 10 #[] w0 fun e w'=>e=.returned (.bool true)∧Below w0.heap.size w0 w':=by
 have KB:=qH (Below.refl w0.heap.size w0)
 have KT:=qH (qA hT hE)
 have KT0:=qH (qA hT hE)
 clear hT hE
 go_enter Tryz.func10,Tryz.ntmps10
 go_wp2_with fail
 refine (qjb _ KT.out.1 KT.out.2).mono ?_
 rintro e w1 ⟨rfl,hb⟩
 replace KB:=qH (KB.out.trans (hb.mono KB.out.size))
 replace KT:=qH (qA (KT.out.1.below hb) (KT.out.2.below hb))
 clear hb
 go_wp2_with fail
 refine (q_lit _ [⟨#[49]⟩,⟨#[50]⟩] [(1:Rat),2] 2 rfl rfl (by decide) (by simp only [qaK,qa3,ft_1,ft_2];decide +kernel) (by decide)).mono ?_
 rintro e w2 ⟨aQ1,gQ1,cQ1,rfl,hf,hb⟩
 have Q1:=qH hf
 replace KB:=qH (KB.out.trans (hb.mono KB.out.size))
 replace KT:=qH (qA (KT.out.1.below hb) (KT.out.2.below hb))
 clear hb hf
 go_wp2_with fail
 refine (q_lit _ [⟨#[48]⟩,⟨#[48]⟩] [(0:Rat),0] 2 rfl rfl (by decide) (by simp only [qaK,qa3,ft_0];decide +kernel) (by decide)).mono ?_
 rintro e w3 ⟨aQ2,gQ2,cQ2,rfl,hf,hb⟩
 have Q2:=qH hf
 replace KB:=qH (KB.out.trans (hb.mono KB.out.size))
 replace KT:=qH (qA (KT.out.1.below hb) (KT.out.2.below hb))
 replace Q1:=qH (Q1.out.below hb)
 clear hb hf
 go_wp2_with fail
 refine (q_lit _ [⟨#[48]⟩,⟨#[48]⟩] [(0:Rat),0] 2 rfl rfl (by decide) (by simp only [qaK,qa3,ft_0];decide +kernel) (by decide)).mono ?_
 rintro e w4 ⟨aQ3,gQ3,cQ3,rfl,hf,hb⟩
 have Q3:=qH hf
 replace KB:=qH (KB.out.trans (hb.mono KB.out.size))
 replace KT:=qH (qA (KT.out.1.below hb) (KT.out.2.below hb))
 replace Q1:=qH (Q1.out.below hb)
 replace Q2:=qH (Q2.out.below hb)
 clear hb hf
 obtain⟨Vm,hVm,Nm⟩:=nw1 w4 #[.int .i64 1,.int .i64 1,.slice aQ1 2 cQ1,.slice aQ2 2 cQ2,.slice aQ3 2 cQ3] 38
 go_upto_region 4 with fail
 rw [←hVm]
 have hb:=Nm.out.1
 have Rm:=qH Nm.out.2
 clear hVm Nm
 replace KB:=qH (KB.out.trans (hb.mono KB.out.size))
 replace KT:=qH (qA (KT.out.1.below hb) (KT.out.2.below hb))
 replace Q1:=qH (Q1.out.below hb)
 replace Q2:=qH (Q2.out.below hb)
 replace Q3:=qH (Q3.out.below hb)
 clear hb
 have K:FkSt w0 Vm _ aQ1 aQ2 aQ3 gQ1 gQ2 gQ3 cQ1 cQ2 cQ3:=⟨KB.out,KT.out.1,KT.out.2,Q1.out,Q2.out,Q3.out,Rm.out⟩
 clear KB KT Q1 Q2 Q3 Rm
 obtain⟨y0,y1,y2,y3,y4⟩:=row5 K.rm
 go_wp2_with fail
 refine (qkF _ _ (qgG K.q1 K.q2 K.q3)).mono ?_
 rintro e w5 ⟨rfl,hb⟩
 replace K:=K.below hb
 clear hb y0 y1 y2 y3 y4
 go_wp2_with fail
 refine (qik _ _ (md0_at' _)).mono ?_
 rintro e w6 ⟨rfl,hb⟩
 replace K:=K.below hb
 clear hb
 go_upto_region 5 with fail
 have lm:=(qG K.rm).1
 have y2:=rowC (B:=w6.heap.size) K.rm 2
 have y3:=rowC (B:=w6.heap.size) K.rm 3
 have y4:=rowC (B:=w6.heap.size) K.rm 4
 refine wp_region_held_drew (S:=fun W=>Below w6.heap.size w6 W) (by kernel_rfl) qB.drew (fun hS0=>?_)
 refine hT 0 (h:=hT 1 (h:=hT 2 (h:=hT 3 (h:=hT 4 (h:=hT 5 (h:=hT 6 (h:=hT 7 (h:=hT 8 (h:=hT 9 (h:=hT 10 (h:=hT 11 (h:=hT 12 (h:=hT 13 (h:=hT 14 (h:=hT 30 (h:=hT 31 (h:=hT 36 (h:=?_))))))))))))))))))
 refine Go.Proofs.YtplkdeknjghobaaGreatDoor.gr [(15,60),(16,61),(17,62),(18,63),(19,64),(20,65),(21,66),(22,67),(23,68),(24,69),(25,70),(26,71),(27,72),(28,73),(29,74),(32,77),(33,78),(34,79),(35,80)] [(16,[15]),(17,[16]),(19,[18]),(20,[19]),(22,[21]),(23,[22]),(24,[17,20,23]),(25,[24]),(27,[26]),(29,[28]),(33,[27,29,32]),(34,[33]),(35,[25,34])] [0,1,2,3,4,5,6,7,8,9,10,11,12,13,14,30,31,36] [15,16,17,18,19,20,21,22,23,24,25,26,27,28,29,32,33,34,35] [] 37 37 (fl2 [(15,SK [⟨#[48]⟩] 1),(16,QK [(0:Rat)] 1),(17,FK (List.replicate 16 (ftxt 0)) 16),(18,SK [⟨#[48]⟩] 1),(19,QK [(0:Rat)] 1),(20,FK (List.replicate 16 (ftxt 0)) 16),(21,SK [⟨#[48]⟩] 1),(22,QK [(0:Rat)] 1),(23,FK (List.replicate 16 (ftxt 0)) 16),(24,RK),(25,BK 3 4),(26,SK [⟨#[49]⟩,⟨#[50]⟩] 2),(27,QK [(1:Rat),2] 2),(28,SK [⟨#[48]⟩,⟨#[48]⟩] 2),(29,QK [(0:Rat),0] 2),(32,FK [fd0,fd0] 2),(33,UK),(34,BK 1 1),(35,VK (.slice aQ1 2 cQ1) (.slice aQ2 2 cQ2) (.slice aQ3 2 cQ3))]) _ 0
  (hS:=fun w' h=>qbW h) (hstep:=⟨⟨_,rfl,fun v w3 hb hF K hK=>?_⟩,⟨_,rfl,fun v w3 hb hF K hK=>?_⟩,⟨_,rfl,fun v w3 hb hF K hK=>?_⟩,⟨_,rfl,fun v w3 hb hF K hK=>?_⟩,⟨_,rfl,fun v w3 hb hF K hK=>?_⟩,⟨_,rfl,fun v w3 hb hF K hK=>?_⟩,⟨_,rfl,fun v w3 hb hF K hK=>?_⟩,⟨_,rfl,fun v w3 hb hF K hK=>?_⟩,⟨_,rfl,fun v w3 hb hF K hK=>?_⟩,⟨_,rfl,fun v w3 hb hF K hK=>?_⟩,⟨_,rfl,fun v w3 hb hF K hK=>?_⟩,⟨_,rfl,fun v w3 hb hF K hK=>?_⟩,⟨_,rfl,fun v w3 hb hF K hK=>?_⟩,⟨_,rfl,fun v w3 hb hF K hK=>?_⟩,⟨_,rfl,fun v w3 hb hF K hK=>?_⟩,⟨_,rfl,fun v w3 hb hF K hK=>?_⟩,⟨_,rfl,fun v w3 hb hF K hK=>?_⟩,⟨_,rfl,fun v w3 hb hF K hK=>?_⟩,⟨_,rfl,fun v w3 hb hF K hK=>?_⟩,trivial⟩) (hend:=fun v w7 hb hF _ fu=>?_)
 ·exact gW hK (h:=⟨⟨w3.heap.size,rfl,SCells.row (L:=[⟨#[48]⟩]) (qM _ _ _ rfl)⟩,qbK qB qN⟩)
 ·obtain⟨g5,eg,h5⟩:∃g:Nat,_:=hF.1
  exact gC hK (qk_at 1 (L:=[⟨#[48]⟩]) (l:=[(0:Rat)]) h5 rfl rfl (by decide) (by decide) (by simp only [qaK,qa3,ft_0];decide +kernel) (by decide)) (h:=fun e w4 ⟨g,c,e1,h1,h2⟩=>⟨_,e1,⟨g,c,rfl,h1⟩,h2⟩)
 ·obtain⟨g5,c5,eg,h5⟩:∃g c:Nat,_:=hF.1
  exact gC hK (qgW h5) (h:=fun e w4 ⟨g,e1,h1,h2⟩=>⟨_,e1,⟨g,rfl,h1⟩,h2⟩)
 ·exact gW hK (h:=⟨⟨w3.heap.size,rfl,SCells.row (L:=[⟨#[48]⟩]) (qM _ _ _ rfl)⟩,qbK qB qN⟩)
 ·obtain⟨g5,eg,h5⟩:∃g:Nat,_:=hF.1
  exact gC hK (qk_at 1 (L:=[⟨#[48]⟩]) (l:=[(0:Rat)]) h5 rfl rfl (by decide) (by decide) (by simp only [qaK,qa3,ft_0];decide +kernel) (by decide)) (h:=fun e w4 ⟨g,c,e1,h1,h2⟩=>⟨_,e1,⟨g,c,rfl,h1⟩,h2⟩)
 ·obtain⟨g5,c5,eg,h5⟩:∃g c:Nat,_:=hF.1
  exact gC hK (qgW h5) (h:=fun e w4 ⟨g,e1,h1,h2⟩=>⟨_,e1,⟨g,rfl,h1⟩,h2⟩)
 ·exact gW hK (h:=⟨⟨w3.heap.size,rfl,SCells.row (L:=[⟨#[48]⟩]) (qM _ _ _ rfl)⟩,qbK qB qN⟩)
 ·obtain⟨g5,eg,h5⟩:∃g:Nat,_:=hF.1
  exact gC hK (qk_at 1 (L:=[⟨#[48]⟩]) (l:=[(0:Rat)]) h5 rfl rfl (by decide) (by decide) (by simp only [qaK,qa3,ft_0];decide +kernel) (by decide)) (h:=fun e w4 ⟨g,c,e1,h1,h2⟩=>⟨_,e1,⟨g,c,rfl,h1⟩,h2⟩)
 ·obtain⟨g5,c5,eg,h5⟩:∃g c:Nat,_:=hF.1
  exact gC hK (qgW h5) (h:=fun e w4 ⟨g,e1,h1,h2⟩=>⟨_,e1,⟨g,rfl,h1⟩,h2⟩)
 ·obtain⟨g0,e0,h0⟩:∃g:Nat,_:=hF.1
  obtain⟨g1,e1,h1⟩:∃g:Nat,_:=hF.2.1
  obtain⟨g2,e2,h2⟩:∃g:Nat,_:=hF.2.2.1
  exact gV hK (v:=.agg #[.slice (some ⟨g0,0,none⟩) 16 16,.slice (some ⟨g1,0,none⟩) 16 16,.slice (some ⟨g2,0,none⟩) 16 16]) ⟨g0,g1,g2,rfl,h0,h1,h2⟩
 ·obtain⟨g0,g1,g2,e0,h0,h1,h2⟩:∃g0 g1 g2:Nat,_:=hF.1
  exact gV hK (v:=.agg #[.int .i64 3,.int .i64 4,.slice (some ⟨g0,0,none⟩) 16 16,.slice (some ⟨g1,0,none⟩) 16 16,.slice (some ⟨g2,0,none⟩) 16 16]) ⟨_,_,_,rfl,qgv h0 h1 h2 (qaU) (qaU) (qaU) (by decide) md_both⟩
 ·exact gW hK (h:=⟨⟨w3.heap.size,rfl,SCells.row (L:=[⟨#[49]⟩,⟨#[50]⟩]) (qM _ _ _ rfl)⟩,qbK qB qN⟩)
 ·obtain⟨g5,eg,h5⟩:∃g:Nat,_:=hF.1
  exact gC hK (qk_at 2 (L:=[⟨#[49]⟩,⟨#[50]⟩]) (l:=[(1:Rat),2]) h5 rfl rfl (by decide) (by decide) (by simp only [qaK,qa3,ft_1,ft_2];decide +kernel) (by decide)) (h:=fun e w4 ⟨g,c,e1,h1,h2⟩=>⟨_,e1,⟨g,c,rfl,h1⟩,h2⟩)
 ·exact gW hK (h:=⟨⟨w3.heap.size,rfl,SCells.row (L:=[⟨#[48]⟩,⟨#[48]⟩]) (qM _ _ _ rfl)⟩,qbK qB qN⟩)
 ·obtain⟨g5,eg,h5⟩:∃g:Nat,_:=hF.1
  exact gC hK (qk_at 2 (L:=[⟨#[48]⟩,⟨#[48]⟩]) (l:=[(0:Rat),0]) h5 rfl rfl (by decide) (by decide) (by simp only [qaK,qa3,ft_0];decide +kernel) (by decide)) (h:=fun e w4 ⟨g,c,e1,h1,h2⟩=>⟨_,e1,⟨g,c,rfl,h1⟩,h2⟩)
 ·exact gW hK (h:=⟨⟨w3.heap.size,rfl,FCells.ofRow (l:=[fd0,fd0]) (qM _ _ _ rfl)⟩,qbK qB qN⟩)
 ·obtain⟨g0,c0,e0,h0⟩:∃g c:Nat,_:=hF.1
  obtain⟨g1,c1,e1,h1⟩:∃g c:Nat,_:=hF.2.1
  obtain⟨g2,e2,h2⟩:∃g:Nat,_:=hF.2.2.1
  exact gV hK (v:=.agg #[.slice (some ⟨g0,0,none⟩) 2 c0,.slice (some ⟨g1,0,none⟩) 2 c1,.slice (some ⟨g2,0,none⟩) 2 2]) ⟨g0,c0,g1,c1,g2,rfl,h0,h1,h2⟩
 ·obtain⟨g0,c0,g1,c1,g2,e0,h0,h1,h2⟩:∃g0 c0 g1 c1 g2:Nat,_:=hF.1
  exact gV hK (v:=.agg #[.int .i64 1,.int .i64 1,.slice (some ⟨g0,0,none⟩) 2 c0,.slice (some ⟨g1,0,none⟩) 2 c1,.slice (some ⟨g2,0,none⟩) 2 2]) ⟨_,_,_,rfl,qgv h0 h1 h2 (qbM _ _) (qbM _ _) rfl (by decide) md_bad⟩
 ·obtain⟨x0,x1,x2,e0,h0⟩:∃x0 x1 x2:Value,_:=hF.1
  obtain⟨z0,z1,z2,e1,h1⟩:∃x0 x1 x2:Value,_:=hF.2.1
  exact gV hK (v:=.agg #[.int .i64 4,.int .i64 1,.slice aQ1 2 cQ1,.slice aQ2 2 cQ2,.slice aQ3 2 cQ3,.int .i64 0,.int .i64 1,.slice aQ1 2 cQ1,.slice aQ2 2 cQ2,.slice aQ3 2 cQ3,.int .i64 1,.int .i64 2,.slice aQ1 2 cQ1,.slice aQ2 2 cQ2,.slice aQ3 2 cQ3,.int .i64 1,.int .i64 0,.slice aQ1 2 cQ1,.slice aQ2 2 cQ2,.slice aQ3 2 cQ3,.int .i64 1,.int .i64 5,.slice aQ1 2 cQ1,.slice aQ2 2 cQ2,.slice aQ3 2 cQ3,.int .i64 3,.int .i64 4,x0,x1,x2,.int .i64 1,.int .i64 1,z0,z1,z2]) ⟨x0,x1,x2,z0,z1,z2,rfl,h0,h1⟩
 obtain⟨x0,x1,x2,z0,z1,z2,e35,h35⟩:∃x0 x1 x2 y0 y1 y2:Value,_:=hF 35 (by decide) (by decide)
 rw [e35]
 have HB:=qH (five_bad (c0:=cQ1) (c1:=cQ2) (c2:=cQ3) (x0:=x0) (x1:=x1) (x2:=x2) (y0:=z0) (y1:=z1) (y2:=z2) ((K.q1.below (qbW hb))) (K.q2.below (qbW hb)) (K.q3.below (qbW hb)) h35.1 h35.2)
 have hb:=qbW hb
 clear e35 h35 hF y2 y3 y4 lm
 refine wpAnyH_done (by kernel_rfl) ?_ _
 replace K:=K.below hb
 clear hb
 go_wp2_with fail
 have KL:=qH (Below.refl w7.heap.size w7)
 go_loopw [81] (fun x81 W=>∃j:Nat,x81=.int .i64 j∧j≤7∧Hid (Below w7.heap.size w7 W)) (fun x81 _=>7-(intOf x81).toNat)
 case atStart=>exact⟨0,rfl,qam _,KL⟩
 case round =>
  obtain⟨j,rfl,hj,hB⟩:=hrel
  by_cases hj7:j<7
  case pos =>
   have hji:(j:Int)<7:=by omega
   obtain⟨k,i,z0,z1,z2,hidx,hbad⟩:=qjH (HB.out.below hB.out) hj7
   obtain⟨ka,kn,kc,la,ln,lc,pa,pn,pc,rfl,rfl,rfl⟩:=hbad.slices
   have HJ:=qH hbad
   have hb:=hB.out
   clear hbad
   replace K:=K.below hb
   replace HB:=qH (HB.out.below hb)
   replace KL:=qH (KL.out.trans (hb.mono KL.out.size))
   clear hb
   obtain⟨Vb,hVb,Nb⟩:=nw1 wr #[.int .i64 k,.int .i64 i,.slice ka kn kc,.slice la ln lc,.slice pa pn pc] 38
   go_upto_region 8 with fail
   rw [←hVb]
   have hb:=Nb.out.1
   have Rb:=qH Nb.out.2
   clear hVb Nb
   replace K:=K.below hb
   replace HB:=qH (HB.out.below hb)
   replace KL:=qH (KL.out.trans (hb.mono KL.out.size))
   replace HJ:=qH (HJ.out.below hb)
   clear hb hidx
   obtain⟨b0,b1,b2,b3,b4⟩:=row5 Rb.out
   go_wp2_with fail
   refine (qlb _ _ HJ.out K.kt).mono ?_
   rintro e w8 ⟨rfl,hb⟩
   replace K:=K.below hb
   replace HB:=qH (HB.out.below hb)
   replace KL:=qH (KL.out.trans (hb.mono KL.out.size))
   replace HJ:=qH (HJ.out.below hb)
   replace Rb:=qH (zkeep hb _ _ Rb.out)
   clear hb b0 b1 b2 b3 b4
   obtain⟨Vc,hVc,Nc⟩:=nw1 w8 #[.string ⟨#[]⟩,.string ⟨#[]⟩,.string ⟨#[]⟩,.string ⟨#[]⟩,.string ⟨#[]⟩,.string ⟨#[]⟩] 65
   go_upto_region 9 with fail
   rw [←hVc]
   have hb:=Nc.out.1
   have Rc:=qH Nc.out.2
   clear hVc Nc
   replace K:=K.below hb
   replace HB:=qH (HB.out.below hb)
   replace KL:=qH (KL.out.trans (hb.mono KL.out.size))
   replace HJ:=qH (HJ.out.below hb)
   replace Rb:=qH (zkeep hb _ _ Rb.out)
   clear hb
   obtain⟨b0,b1,b2,b3,b4⟩:=row5 Rb.out
   go_wp2_with fail
   refine (qhK _ _ HJ.out K.kt).mono ?_
   rintro e w9 ⟨rfl,hb⟩
   replace K:=K.below hb
   replace HB:=qH (HB.out.below hb)
   replace KL:=qH (KL.out.trans (hb.mono KL.out.size))
   replace HJ:=qH (HJ.out.below hb)
   replace Rb:=qH (zkeep hb _ _ Rb.out)
   replace Rc:=qH (zkeep hb _ _ Rc.out)
   clear hb b0 b1 b2 b3 b4
   obtain⟨b0,b1,b2,b3,b4⟩:=row5 Rb.out
   go_wp2_with fail
   refine (qjh _ _ HJ.out K.kt K.ke).mono ?_
   rintro e w10 ⟨rfl,hb⟩
   replace K:=K.below hb
   replace HB:=qH (HB.out.below hb)
   replace KL:=qH (KL.out.trans (hb.mono KL.out.size))
   replace HJ:=qH (HJ.out.below hb)
   replace Rb:=qH (zkeep hb _ _ Rb.out)
   replace Rc:=qH (zkeep hb _ _ Rc.out)
   clear hb b0 b1 b2 b3 b4
   unfold elv0
   obtain⟨Vd,hVd,Nd⟩:=nw1 w10 #[.int .i64 0,.slice none 0 0,.slice none 0 0,.slice none 0 0,.slice none 0 0,.int .i64 0,.slice none 0 0,.slice none 0 0,.int .i64 0,.int .i64 0] 82
   go_upto_region 11 with fail
   rw [←hVd]
   have hb:=Nd.out.1
   have Rd:=qH Nd.out.2
   clear hVd Nd
   replace K:=K.below hb
   replace HB:=qH (HB.out.below hb)
   replace KL:=qH (KL.out.trans (hb.mono KL.out.size))
   replace HJ:=qH (HJ.out.below hb)
   replace Rb:=qH (zkeep hb _ _ Rb.out)
   replace Rc:=qH (zkeep hb _ _ Rc.out)
   clear hb
   have lb:=(qG Rb.out).1
   have lc:=(qG Rc.out).1
   have ld:=(qG Rd.out).1
   have b0:=rowC (B:=Vd.heap.size) Rb.out 0
   have b1:=rowC (B:=Vd.heap.size) Rb.out 1
   have b2:=rowC (B:=Vd.heap.size) Rb.out 2
   have b3:=rowC (B:=Vd.heap.size) Rb.out 3
   have b4:=rowC (B:=Vd.heap.size) Rb.out 4
   have c0:=rowC (B:=Vd.heap.size) Rc.out 0
   have c1:=rowC (B:=Vd.heap.size) Rc.out 1
   have c2:=rowC (B:=Vd.heap.size) Rc.out 2
   have c3:=rowC (B:=Vd.heap.size) Rc.out 3
   have c4:=rowC (B:=Vd.heap.size) Rc.out 4
   have c5:=rowC (B:=Vd.heap.size) Rc.out 5
   have d0:=rowC (B:=Vd.heap.size) Rd.out 0
   refine wp_region_held_drew (S:=fun W=>Below Vd.heap.size Vd W) (by kernel_rfl) qB.drew (fun hS0=>?_)
   have hV0:Below Vd.heap.size Vd Vd.drew:=qB.drew
   refine hT 0 (h:=?_)
   refine hC 1 (qik _ _ (HJ.out.below hV0)) (h:=?_)
   rintro e v1 ⟨rfl,hb⟩
   have hV1:Below Vd.heap.size Vd v1:=hV0.trans (hb.mono hV0.size)
   clear hb
   refine⟨_,rfl,hV1,hN (h:=?_)⟩
   refine hT 2 (hS:=hV1) (h:=hT 3 (hS:=hV1) (h:=hT 4 (hS:=hV1) (h:=hT 5 (hS:=hV1) (h:=?_))))
   refine hT 6 (hS:=hV1) (v:=.bool false) (hy:=by (intro w hSw;go_simp;rw [eq_3e];rfl)) (h:=?_)
   refine hT 7 (hS:=hV1) (h:=hT 8 (hS:=hV1) (h:=hT 9 (hS:=hV1) (h:=hT 10 (hS:=hV1) (h:=hT 11 (hS:=hV1) (h:=hT 12 (hS:=hV1) (h:=hT 13 (hS:=hV1) (h:=hT 14 (hS:=hV1) (h:=hT 15 (hS:=hV1) (h:=hT 16 (hS:=hV1) (h:=hT 17 (hS:=hV1) (h:=hT 18 (hS:=hV1) (h:=hT 19 (hS:=hV1) (h:=hT 20 (hS:=hV1) (h:=hT 21 (hS:=hV1) (h:=hT 22 (hS:=hV1) (h:=hT 23 (hS:=hV1) (h:=hT 24 (hS:=hV1) (h:=hT 25 (hS:=hV1) (h:=hT 26 (hS:=hV1) (h:=hT 27 (hS:=hV1) (h:=hT 28 (hS:=hV1) (h:=hT 29 (hS:=hV1) (h:=hT 30 (hS:=hV1) (h:=hT 32 (hS:=hV1) (h:=?_)))))))))))))))))))))))))
   refine hC 31 (qdG 320 _) (h:=?_)
   rintro e v2 ⟨bn,rfl,hb,hbn⟩
   have hV2:Below Vd.heap.size Vd v2:=hV1.trans (hb.mono hV1.size)
   clear hb
   refine⟨_,rfl,hV2,hN (h:=?_)⟩
   refine hC 33 (qji _ _ (HJ.out.below hV2) (K.kt.below hV2)) (h:=?_)
   rintro e v3 ⟨rfl,hb⟩
   replace hbn:=zkeep hb _ _ hbn
   have hV3:Below Vd.heap.size Vd v3:=hV2.trans (hb.mono hV2.size)
   clear hb
   refine⟨_,rfl,hV3,hN (h:=?_)⟩
   refine hT 34 (hS:=hV3) (h:=hT 35 (hS:=hV3) (h:=?_))
   refine hC 36 (qdn 320 _ _ hbn) (h:=?_)
   rintro e v4 ⟨rfl,hw⟩
   subst hw
   refine⟨_,rfl,hV3,hN (h:=?_)⟩
   refine hT 37 (hS:=hV3) (h:=hT 38 (hS:=hV3) (h:=?_))
   refine wpAnyH_done (by kernel_rfl) ?_ _
   have KL2:=qH (KL.out.trans (hV3.mono KL.out.size))
   clear hbn hV0 hV1 hV2 hV3 b0 b1 b2 b3 b4 c0 c1 c2 c3 c4 c5 d0 lb lc ld
   go_wp2_with fail
   go_roundw
   case rel=>exact⟨j+1,by go_num,hj7,KL2⟩
   case measure=>simp [intOf];omega
  case neg =>
   have hji:¬(j:Int)<7:=by omega
   obtain rfl:j=7:=by omega
   have hb:=hB.out
   clear KL hB
   replace K:=K.below hb
   replace HB:=qH (HB.out.below hb)
   clear hb HB
   go_upto_region 14 with fail
   simp only [List.append_eq,List.cons_append,qbd]
   go_wp2_with fail
   refine (qdG 2 _).mono ?_
   rintro e w21 ⟨bJ1,rfl,hb,hi⟩
   have J1:=qH hi
   replace K:=K.below hb
   clear hb hi
   go_wp2_with fail
   refine (tnoA (tk1 (rowA _ _ _) (K.kt.below (alloc_old _ _)))).mono ?_
   rintro e w22 ⟨rfl,hb⟩
   replace K:=K.below hb
   replace J1:=qH (zkeep hb _ _ J1.out)
   clear hb
   go_wp2_with fail
   refine (qdn 2 _ _ J1.out).mono ?_
   rintro e w23 ⟨rfl,hw⟩
   subst hw
   clear J1
   go_wp2_with fail
   refine (qdG 2 _).mono ?_
   rintro e w24 ⟨bJ2,rfl,hb,hi⟩
   have J2:=qH hi
   replace K:=K.below hb
   clear hb hi
   go_wp2_with fail
   refine (tk2 K.kt).mono ?_
   rintro e w25 ⟨rfl,hb⟩
   replace K:=K.below hb
   replace J2:=qH (zkeep hb _ _ J2.out)
   clear hb
   go_wp2_with fail
   refine (qdn 2 _ _ J2.out).mono ?_
   rintro e w26 ⟨rfl,hw⟩
   subst hw
   clear J2
   go_wp2_with fail
   refine (qdG 2 _).mono ?_
   rintro e w27 ⟨bJ3,rfl,hb,hi⟩
   have J3:=qH hi
   replace K:=K.below hb
   clear hb hi
   go_wp2_with fail
   refine (tnoA (tk3 (rowA _ _ _) (K.kt.below (alloc_old _ _)))).mono ?_
   rintro e w28 ⟨rfl,hb⟩
   replace K:=K.below hb
   replace J3:=qH (zkeep hb _ _ J3.out)
   clear hb
   go_wp2_with fail
   refine (qdn 2 _ _ J3.out).mono ?_
   rintro e w29 ⟨rfl,hw⟩
   subst hw
   clear J3
   go_wp2_with fail
   refine (qdG 2 _).mono ?_
   rintro e w30 ⟨bJ4,rfl,hb,hi⟩
   have J4:=qH hi
   replace K:=K.below hb
   clear hb hi
   go_wp2_with fail
   refine (tnoA (tk4 (rowA _ _ _) (K.kt.below (alloc_old _ _)))).mono ?_
   rintro e w31 ⟨rfl,hb⟩
   replace K:=K.below hb
   replace J4:=qH (zkeep hb _ _ J4.out)
   clear hb
   go_wp2_with fail
   refine (qdn 2 _ _ J4.out).mono ?_
   rintro e w32 ⟨rfl,hw⟩
   subst hw
   clear J4
   go_wp2_with fail
   refine (qdG 2 _).mono ?_
   rintro e w33 ⟨bJ5,rfl,hb,hi⟩
   have J5:=qH hi
   replace K:=K.below hb
   clear hb hi
   go_wp2_with fail
   refine (tnoA (tk5 (rowA _ _ _) (K.kt.below (alloc_old _ _)))).mono ?_
   rintro e w34 ⟨rfl,hb⟩
   replace K:=K.below hb
   replace J5:=qH (zkeep hb _ _ J5.out)
   clear hb
   go_wp2_with fail
   refine (qdn 2 _ _ J5.out).mono ?_
   rintro e w35 ⟨rfl,hw⟩
   subst hw
   clear J5
   go_wp2_with fail
   refine (qdG 5 _).mono ?_
   rintro e w36 ⟨bJ6,rfl,hb,hi⟩
   have J6:=qH hi
   replace K:=K.below hb
   clear hb hi
   go_wp2_with fail
   refine (tnoA (tk6 (rowA _ _ _) (K.kt.below (alloc_old _ _)))).mono ?_
   rintro e w37 ⟨rfl,hb⟩
   replace K:=K.below hb
   replace J6:=qH (zkeep hb _ _ J6.out)
   clear hb
   go_wp2_with fail
   refine (qdn 5 _ _ J6.out).mono ?_
   rintro e w38 ⟨rfl,hw⟩
   subst hw
   clear J6
   go_wp2_with fail
   refine (qfo _ [⟨#[49]⟩,⟨#[49]⟩,⟨#[49,47,49,48,48,48,48]⟩,⟨#[48]⟩,⟨#[48]⟩] 5 rfl).mono ?_
   rintro e w39 ⟨bJ7,rfl,hi,hb⟩
   have J7:=qH hi
   replace K:=K.below hb
   clear hb hi
   go_wp2_with fail
   refine (tk7A K.kt).mono ?_
   rintro e w40 ⟨pG7,gG7,cG7,rfl,hf,hb⟩
   have G7:=qH hf
   replace K:=K.below hb
   replace J7:=qH (J7.out.below hb)
   clear hb hf
   go_wp2_with fail
   refine (qdX (L:=[⟨#[49]⟩,⟨#[49]⟩,⟨#[49,47,49,48,48,48,48]⟩,⟨#[48]⟩,⟨#[48]⟩]) (l:=[(1:Rat),1,1 / 10000,0,0]) J7.out rfl rfl (by decide) (by simp only [qaK,qa3,ft_0,ft_1,ft_1t];decide +kernel) (by decide) G7.out).mono ?_
   rintro e w41 ⟨rfl,hb⟩
   replace K:=K.below hb
   replace J7:=qH (J7.out.below hb)
   replace G7:=qH (G7.out.below hb)
   clear hb J7 G7
   go_wp2_with fail
   refine (qfo _ [⟨#[49]⟩,⟨#[49,47,50]⟩,⟨#[49,47,52]⟩,⟨#[49,47,56]⟩,⟨#[49]⟩,⟨#[49,47,50]⟩,⟨#[49,47,52]⟩,⟨#[49,47,56]⟩] 8 rfl).mono ?_
   rintro e w42 ⟨bJ8,rfl,hi,hb⟩
   have J8:=qH hi
   replace K:=K.below hb
   clear hb hi
   go_wp2_with fail
   refine (tk8A K.kt).mono ?_
   rintro e w43 ⟨pG8,gG8,cG8,rfl,hf,hb⟩
   have G8:=qH hf
   replace K:=K.below hb
   replace J8:=qH (J8.out.below hb)
   clear hb hf
   go_wp2_with fail
   refine (qdX (L:=[⟨#[49]⟩,⟨#[49,47,50]⟩,⟨#[49,47,52]⟩,⟨#[49,47,56]⟩,⟨#[49]⟩,⟨#[49,47,50]⟩,⟨#[49,47,52]⟩,⟨#[49,47,56]⟩]) (l:=[(1:Rat),1 / 2,1 / 4,1 / 8,1,1 / 2,1 / 4,1 / 8]) J8.out rfl rfl (by decide) (by simp only [qaK,qa3,ft_1,ft_12,ft_14,ft_18];decide +kernel) (by decide) G8.out).mono ?_
   rintro e w44 ⟨rfl,hb⟩
   replace K:=K.below hb
   replace J8:=qH (J8.out.below hb)
   replace G8:=qH (G8.out.below hb)
   clear hb J8 G8
   go_upto_region 15 with fail
   obtain⟨Vf,hVf,Nf⟩:=nw2 w44 #[.int .i64 0,.int .i64 0,.int .i64 0,.int .i64 0] 3 #[.string ⟨#[97]⟩,.slice (some ⟨w44.heap.size,0,none⟩) 4 4,.int .i64 0,.int .i64 0,.int .i64 0] 55
   go_upto_region 16 with fail
   rw [←hVf]
   have hb:=Nf.out.1
   have P4:=qH (four_at Nf.out.2.1 Nf.out.2.2)
   clear hVf Nf
   replace K:=K.below hb
   clear hb
   simp only [List.append_eq,List.cons_append,qbd]
   go_wp2_with fail
   refine (qcV 310 _).mono ?_
   rintro e w46 ⟨bJ9,rfl,hb,hi⟩
   have J9:=qH hi
   replace K:=K.below hb
   replace P4:=qH (P4.out.below hb)
   clear hb hi
   go_wp2_with fail
   refine (fk1 _ K.kt).mono ?_
   rintro e w47 ⟨rfl,hb⟩
   replace K:=K.below hb
   replace P4:=qH (P4.out.below hb)
   replace J9:=qH (zkeep hb _ _ J9.out)
   clear hb
   go_wp2_with fail
   refine (qcI 310 _ _ J9.out).mono ?_
   rintro e w48 ⟨rfl,hb⟩
   clear J9
   replace K:=K.below hb
   replace P4:=qH (P4.out.below hb)
   clear hb
   go_wp2_with fail
   refine (qcV 2 _).mono ?_
   rintro e w49 ⟨bJ10,rfl,hb,hi⟩
   have J10:=qH hi
   replace K:=K.below hb
   replace P4:=qH (P4.out.below hb)
   clear hb hi
   go_wp2_with fail
   refine (qdt _).mono ?_
   rintro e w50 ⟨gG10,rfl,hp,hb⟩
   have G10:=qH hp
   replace K:=K.below hb
   replace P4:=qH (P4.out.below hb)
   replace J10:=qH (zkeep hb _ _ J10.out)
   clear hb hp
   go_wp2_with fail
   refine (failA (qhR (ws:=[1,1,1]) rfl (by decide) (G10.out.below (alloc_old _ _)) (rowA _ _ _) (K.kt.below (alloc_old _ _)) arg_kind)).mono ?_
   rintro e w51 ⟨rfl,hb⟩
   replace K:=K.below hb
   replace P4:=qH (P4.out.below hb)
   replace J10:=qH (zkeep hb _ _ J10.out)
   replace G10:=qH (G10.out.below hb)
   clear hb G10
   go_wp2_with fail
   refine (qcI 2 _ _ J10.out).mono ?_
   rintro e w52 ⟨rfl,hb⟩
   clear J10
   replace K:=K.below hb
   replace P4:=qH (P4.out.below hb)
   clear hb
   go_wp2_with fail
   refine (qcV 2 _).mono ?_
   rintro e w53 ⟨bJ11,rfl,hb,hi⟩
   have J11:=qH hi
   replace K:=K.below hb
   replace P4:=qH (P4.out.below hb)
   clear hb hi
   go_wp2_with fail
   refine (qdt _).mono ?_
   rintro e w54 ⟨gG11,rfl,hp,hb⟩
   have G11:=qH hp
   replace K:=K.below hb
   replace P4:=qH (P4.out.below hb)
   replace J11:=qH (zkeep hb _ _ J11.out)
   clear hb hp
   go_wp2_with fail
   refine (failA (qhR (ws:=[1,1]) rfl (by decide) (G11.out.below (alloc_old _ _)) (rowA _ _ _) (K.kt.below (alloc_old _ _)) arg_two)).mono ?_
   rintro e w55 ⟨rfl,hb⟩
   replace K:=K.below hb
   replace P4:=qH (P4.out.below hb)
   replace J11:=qH (zkeep hb _ _ J11.out)
   replace G11:=qH (G11.out.below hb)
   clear hb G11
   go_wp2_with fail
   refine (qcI 2 _ _ J11.out).mono ?_
   rintro e w56 ⟨rfl,hb⟩
   clear J11
   replace K:=K.below hb
   replace P4:=qH (P4.out.below hb)
   clear hb
   go_wp2_with fail
   refine (qcV 2 _).mono ?_
   rintro e w57 ⟨bJ12,rfl,hb,hi⟩
   have J12:=qH hi
   replace K:=K.below hb
   replace P4:=qH (P4.out.below hb)
   clear hb hi
   go_wp2_with fail
   refine (qdt _).mono ?_
   rintro e w58 ⟨gG12,rfl,hp,hb⟩
   have G12:=qH hp
   replace K:=K.below hb
   replace P4:=qH (P4.out.below hb)
   replace J12:=qH (zkeep hb _ _ J12.out)
   clear hb hp
   go_wp2_with fail
   refine (failA (qhR (ws:=[1,1,-1]) rfl (by decide) (G12.out.below (alloc_old _ _)) (rowA _ _ _) (K.kt.below (alloc_old _ _)) arg_neg)).mono ?_
   rintro e w59 ⟨rfl,hb⟩
   replace K:=K.below hb
   replace P4:=qH (P4.out.below hb)
   replace J12:=qH (zkeep hb _ _ J12.out)
   replace G12:=qH (G12.out.below hb)
   clear hb G12
   go_wp2_with fail
   refine (qcI 2 _ _ J12.out).mono ?_
   rintro e w60 ⟨rfl,hb⟩
   clear J12
   replace K:=K.below hb
   replace P4:=qH (P4.out.below hb)
   clear hb
   go_wp2_with fail
   refine (qcV 2 _).mono ?_
   rintro e w61 ⟨bJ13,rfl,hb,hi⟩
   have J13:=qH hi
   replace K:=K.below hb
   replace P4:=qH (P4.out.below hb)
   clear hb hi
   go_wp2_with fail
   refine (qdt _).mono ?_
   rintro e w62 ⟨gG13,rfl,hp,hb⟩
   have G13:=qH hp
   replace K:=K.below hb
   replace P4:=qH (P4.out.below hb)
   replace J13:=qH (zkeep hb _ _ J13.out)
   clear hb hp
   go_wp2_with fail
   refine (failA (qhR (ws:=[1,1,1001]) rfl (by decide) (G13.out.below (alloc_old _ _)) (rowA _ _ _) (K.kt.below (alloc_old _ _)) arg_big)).mono ?_
   rintro e w63 ⟨rfl,hb⟩
   replace K:=K.below hb
   replace P4:=qH (P4.out.below hb)
   replace J13:=qH (zkeep hb _ _ J13.out)
   replace G13:=qH (G13.out.below hb)
   clear hb G13
   go_wp2_with fail
   refine (qcI 2 _ _ J13.out).mono ?_
   rintro e w64 ⟨rfl,hb⟩
   clear J13
   replace K:=K.below hb
   replace P4:=qH (P4.out.below hb)
   clear hb
   go_wp2_with fail
   refine (qcV 5 _).mono ?_
   rintro e w65 ⟨bJ14,rfl,hb,hi⟩
   have J14:=qH hi
   replace K:=K.below hb
   replace P4:=qH (P4.out.below hb)
   clear hb hi
   go_wp2_with fail
   refine (failA (fk6 (P4.out.below (alloc_old _ _)) (rowA _ _ _) (K.kt.below (alloc_old _ _)))).mono ?_
   rintro e w66 ⟨rfl,hb⟩
   replace K:=K.below hb
   replace P4:=qH (P4.out.below hb)
   replace J14:=qH (zkeep hb _ _ J14.out)
   clear hb
   go_wp2_with fail
   refine (qcI 5 _ _ J14.out).mono ?_
   rintro e w67 ⟨rfl,hb⟩
   clear J14
   replace K:=K.below hb
   replace P4:=qH (P4.out.below hb)
   clear hb
   go_wp2_with fail
   refine (qcV 2 _).mono ?_
   rintro e w68 ⟨bJ15,rfl,hb,hi⟩
   have J15:=qH hi
   replace K:=K.below hb
   replace P4:=qH (P4.out.below hb)
   clear hb hi
   go_wp2_with fail
   refine (fk7 P4.out K.kt).mono ?_
   rintro e w69 ⟨rfl,hb⟩
   replace K:=K.below hb
   replace P4:=qH (P4.out.below hb)
   replace J15:=qH (zkeep hb _ _ J15.out)
   clear hb
   go_wp2_with fail
   refine (qcI 2 _ _ J15.out).mono ?_
   rintro e w70 ⟨rfl,hb⟩
   clear J15
   replace K:=K.below hb
   replace P4:=qH (P4.out.below hb)
   clear hb
   go_wp2_with fail
   refine (qcV 7 _).mono ?_
   rintro e w71 ⟨bJ16,rfl,hb,hi⟩
   have J16:=qH hi
   replace K:=K.below hb
   replace P4:=qH (P4.out.below hb)
   clear hb hi
   go_wp2_with fail
   refine (failA (fk8 (P4.out.below (alloc_old _ _)) (rowA _ _ _) (K.kt.below (alloc_old _ _)))).mono ?_
   rintro e w72 ⟨rfl,hb⟩
   replace K:=K.below hb
   replace P4:=qH (P4.out.below hb)
   replace J16:=qH (zkeep hb _ _ J16.out)
   clear hb
   go_wp2_with fail
   refine (qcI 7 _ _ J16.out).mono ?_
   rintro e w73 ⟨rfl,hb⟩
   clear J16
   replace K:=K.below hb
   replace P4:=qH (P4.out.below hb)
   clear hb
   go_wp2_with fail
   refine (qcV 7 _).mono ?_
   rintro e w74 ⟨bJ17,rfl,hb,hi⟩
   have J17:=qH hi
   replace K:=K.below hb
   replace P4:=qH (P4.out.below hb)
   clear hb hi
   go_wp2_with fail
   refine (qdt _).mono ?_
   rintro e w75 ⟨gG17,rfl,hp,hb⟩
   have G17:=qH hp
   replace K:=K.below hb
   replace P4:=qH (P4.out.below hb)
   replace J17:=qH (zkeep hb _ _ J17.out)
   clear hb hp
   go_wp2_with fail
   refine (failA (fk9 (G17.out.below (alloc_old _ _)) (rowA _ _ _) (K.kt.below (alloc_old _ _)))).mono ?_
   rintro e w76 ⟨rfl,hb⟩
   replace K:=K.below hb
   replace P4:=qH (P4.out.below hb)
   replace J17:=qH (zkeep hb _ _ J17.out)
   replace G17:=qH (G17.out.below hb)
   clear hb G17
   go_wp2_with fail
   refine (qcI 7 _ _ J17.out).mono ?_
   rintro e w77 ⟨rfl,hb⟩
   clear J17
   replace K:=K.below hb
   replace P4:=qH (P4.out.below hb)
   clear hb
   go_upto_region 17 with fail
   obtain⟨y0,y1,y2,y3,y4⟩:=row5 K.rm
   go_wp2_with fail
   refine (qlH _ _ (qgG K.q1 K.q2 K.q3) K.kt).mono ?_
   rintro e w78 ⟨rfl,hb⟩
   replace K:=K.below hb
   replace P4:=qH (P4.out.below hb)
   clear hb y0 y1 y2 y3 y4
   obtain⟨Ve,hVe,Ne⟩:=nw1 w78 #[.string ⟨#[]⟩,.string ⟨#[]⟩,.string ⟨#[]⟩,.string ⟨#[]⟩,.string ⟨#[]⟩,.string ⟨#[]⟩] 65
   go_upto_region 18 with fail
   rw [←hVe]
   have hb:=Ne.out.1
   have Re:=qH Ne.out.2
   clear hVe Ne
   replace K:=K.below hb
   replace P4:=qH (P4.out.below hb)
   clear hb Re
   obtain⟨y0,y1,y2,y3,y4⟩:=row5 K.rm
   go_wp2_with fail
   refine (qlG _ _ (qgG K.q1 K.q2 K.q3) K.kt).mono ?_
   rintro e w79 ⟨rfl,hb⟩
   replace K:=K.below hb
   replace P4:=qH (P4.out.below hb)
   clear hb y0 y1 y2 y3 y4
   obtain⟨Vf,hVf,Nf⟩:=nw1 w79 #[.string ⟨#[]⟩,.string ⟨#[]⟩,.string ⟨#[]⟩,.string ⟨#[]⟩,.string ⟨#[]⟩,.string ⟨#[]⟩] 65
   go_upto_region 19 with fail
   rw [←hVf]
   have hb:=Nf.out.1
   have Rf:=qH Nf.out.2
   clear hVf Nf
   replace K:=K.below hb
   replace P4:=qH (P4.out.below hb)
   clear hb Rf
   obtain⟨y0,y1,y2,y3,y4⟩:=row5 K.rm
   go_wp2_with fail
   refine (qlI _ _ (qgG K.q1 K.q2 K.q3) K.kt).mono ?_
   rintro e w80 ⟨rfl,hb⟩
   replace K:=K.below hb
   replace P4:=qH (P4.out.below hb)
   clear hb y0 y1 y2 y3 y4
   go_upto_region 20 with fail
   obtain⟨y0,y1,y2,y3,y4⟩:=row5 K.rm
   go_wp2_with fail
   refine (qlJ _ _ (qgG K.q1 K.q2 K.q3) P4.out K.kt).mono ?_
   rintro e w81 ⟨rfl,hb⟩
   replace K:=K.below hb
   replace P4:=qH (P4.out.below hb)
   clear hb y0 y1 y2 y3 y4
   go_upto_region 21 with fail
   clear P4
   obtain⟨y0,y1,y2,y3,y4⟩:=row5 K.rm
   go_wp2_with fail
   refine (good_el3 _ _ (good3_at K.q1 K.q2 K.q3) K.kt K.ke).mono ?_
   rintro e w82 ⟨rfl,hb⟩
   replace K:=K.below hb
   clear hb y0 y1 y2 y3 y4
   unfold elv0
   obtain⟨Vg,hVg,Ng⟩:=nw1 w82 #[.int .i64 0,.slice none 0 0,.slice none 0 0,.slice none 0 0,.slice none 0 0,.int .i64 0,.slice none 0 0,.slice none 0 0,.int .i64 0,.int .i64 0] 82
   go_upto_region 22 with fail
   rw [←hVg]
   have hb:=Ng.out.1
   have Rg:=qH Ng.out.2
   clear hVg Ng
   replace K:=K.below hb
   clear hb Rg
   go_wp2_with fail
   refine (q_lit _ [⟨#[49,48,48,48,48,49]⟩,⟨#[48]⟩] [(100001:Rat),0] 2 rfl rfl (by decide) (by simp only [qaK,qa3,ft_0,ft_61];decide +kernel) (by decide)).mono ?_
   rintro e w83 ⟨aB1,gB1,cB1,rfl,hf,hb⟩
   have B1:=qH hf
   replace K:=K.below hb
   clear hb hf
   go_wp2_with fail
   refine (q_lit _ [⟨#[48]⟩,⟨#[48]⟩] [(0:Rat),0] 2 rfl rfl (by decide) (by simp only [qaK,qa3,ft_0];decide +kernel) (by decide)).mono ?_
   rintro e w84 ⟨aB2,gB2,cB2,rfl,hf,hb⟩
   have B2:=qH hf
   replace K:=K.below hb
   replace B1:=qH (B1.out.below hb)
   clear hb hf
   go_wp2_with fail
   refine (q_lit _ [⟨#[48]⟩,⟨#[48]⟩] [(0:Rat),0] 2 rfl rfl (by decide) (by simp only [qaK,qa3,ft_0];decide +kernel) (by decide)).mono ?_
   rintro e w85 ⟨aB3,gB3,cB3,rfl,hf,hb⟩
   have B3:=qH hf
   replace K:=K.below hb
   replace B1:=qH (B1.out.below hb)
   replace B2:=qH (B2.out.below hb)
   clear hb hf
   have KL:=qH K.kb.size
   obtain⟨Vh,hVh,Nh⟩:=nw1 w85 #[.int .i64 1,.int .i64 1,.slice aB1 2 cB1,.slice aB2 2 cB2,.slice aB3 2 cB3] 38
   go_upto_region 23 with fail
   rw [←hVh]
   have hb:=Nh.out.1
   have Rh:=qH Nh.out.2
   clear hVh Nh
   replace K:=K.below hb
   replace B1:=qH (B1.out.below hb)
   replace B2:=qH (B2.out.below hb)
   replace B3:=qH (B3.out.below hb)
   clear hb
   obtain⟨y0,y1,y2,y3,y4⟩:=row5 Rh.out
   go_wp2_with fail
   refine (big_el _ _ (big_at B1.out B2.out B3.out) K.kt K.ke).mono ?_
   rintro e w86 ⟨rfl,hb⟩
   replace K:=K.below hb
   replace B1:=qH (B1.out.below hb)
   replace B2:=qH (B2.out.below hb)
   replace B3:=qH (B3.out.below hb)
   replace Rh:=qH (zkeep hb _ _ Rh.out)
   clear hb y0 y1 y2 y3 y4
   unfold elv0
   obtain⟨Vi,hVi,Ni⟩:=nw1 w86 #[.int .i64 0,.slice none 0 0,.slice none 0 0,.slice none 0 0,.slice none 0 0,.int .i64 0,.slice none 0 0,.slice none 0 0,.int .i64 0,.int .i64 0] 82
   go_upto_region 24 with fail
   rw [←hVi]
   have hb:=Ni.out.1
   have Ri:=qH Ni.out.2
   clear hVi Ni
   replace K:=K.below hb
   replace B1:=qH (B1.out.below hb)
   replace B2:=qH (B2.out.below hb)
   replace B3:=qH (B3.out.below hb)
   replace Rh:=qH (zkeep hb _ _ Rh.out)
   clear hb Ri B1
   go_wp2_with fail
   refine (q_lit _ [⟨#[49,48,48,48,48,48]⟩,⟨#[45,49,48,48,48,48,48]⟩] [(100000:Rat),-100000] 2 rfl rfl (by decide) (by simp only [qaK,qa3,ft_60,ft_m60];decide +kernel) (by decide)).mono ?_
   rintro e w87 ⟨aB4,gB4,cB4,rfl,hf,hb⟩
   have B4:=qH hf
   replace K:=K.below hb
   replace B2:=qH (B2.out.below hb)
   replace B3:=qH (B3.out.below hb)
   replace Rh:=qH (zkeep hb _ _ Rh.out)
   clear hb hf
   have y2:=qC _ _ 2 _ _ _ Rh.out
   have f2:=qF _ _ 2 _ _ Rh.out
   obtain⟨Vn,hVn⟩:∃V,V=w87.setCell ⟨w85.heap.size,2,none⟩ (.slice aB4 2 cB4):=⟨_,rfl⟩
   go_upto_region 25 with fail
   rw [←hVn]
   have MS:=qH (ql6 Rh.out (.slice aB4 2 cB4))
   rw [←hVn] at MS
   have KBn:=qH (K.kb.setCell (p:=⟨w85.heap.size,2,none⟩) KL.out (.slice aB4 2 cB4))
   rw [←hVn] at KBn
   have B2n:=qH (B2.out.set y2 (.slice aB4 2 cB4))
   rw [←hVn] at B2n
   have B3n:=qH (B3.out.set y2 (.slice aB4 2 cB4))
   rw [←hVn] at B3n
   have B4n:=qH (B4.out.set y2 (.slice aB4 2 cB4))
   rw [←hVn] at B4n
   clear y2 f2 hVn Rh K B2 B3 B4
   have KTn:=qH (qA (KT0.out.1.below KBn.out) (KT0.out.2.below KBn.out))
   have y0:=MS.out.1
   have y1:=MS.out.2.1
   have y2:=MS.out.2.2.1
   have y3:=MS.out.2.2.2.1
   have y4:=MS.out.2.2.2.2
   go_wp2_with fail
   refine (wide_el _ _ (wide_at B4n.out B2n.out B3n.out) KTn.out.1 KTn.out.2).mono ?_
   rintro e w88 ⟨gr,cr,g0,c0x,go,co,rfl,hel,hb⟩
   have EL:=qH hel
   replace KBn:=qH (KBn.out.trans (hb.mono KBn.out.size))
   replace KTn:=qH (qA (KTn.out.1.below hb) (KTn.out.2.below hb))
   clear hb hel y0 y1 y2 y3 y4 MS B2n B3n B4n
   obtain⟨Vj,hVj,Nj⟩:=nw1 w88 #[.int .i64 2,.slice none 0 0,.slice (some ⟨gr,0,none⟩) 3 cr,.slice (some ⟨go,0,none⟩) 3 co,.slice none 0 0,.int .i64 0,.slice none 0 0,.slice none 0 0,.int .i64 0,.int .i64 0] 82
   go_upto_region 26 with fail
   rw [←hVj]
   have hb:=Nj.out.1
   have Rj:=qH Nj.out.2
   clear hVj Nj
   replace EL:=qH (qA ((hb.cell (qac _ _ EL.out.1)).trans EL.out.1) (qA ((hb.cell (qac _ _ EL.out.2.1)).trans EL.out.2.1) ((hb.cell (qac _ _ EL.out.2.2)).trans EL.out.2.2)))
   replace KBn:=qH (KBn.out.trans (hb.mono KBn.out.size))
   replace KTn:=qH (qA (KTn.out.1.below hb) (KTn.out.2.below hb))
   clear hb
   go_wp2_with fail
   refine (qjb _ KTn.out.1 KTn.out.2).mono ?_
   rintro e w89 ⟨rfl,hb⟩
   replace EL:=qH (qA ((hb.cell (qac _ _ EL.out.1)).trans EL.out.1) (qA ((hb.cell (qac _ _ EL.out.2.1)).trans EL.out.2.1) ((hb.cell (qac _ _ EL.out.2.2)).trans EL.out.2.2)))
   replace KBn:=qH (KBn.out.trans (hb.mono KBn.out.size))
   replace KTn:=qH (qA (KTn.out.1.below hb) (KTn.out.2.below hb))
   replace Rj:=qH (zkeep hb _ _ Rj.out)
   clear hb
   have y0:=qC _ _ 2 _ _ _ Rj.out
   have y1:=qC _ _ 3 _ _ _ Rj.out
   have y2:=EL.out.1
   have y3:=EL.out.2.1
   have y4:=EL.out.2.2
   go_wp2_with fail
   go_ret
   exact⟨rfl,KBn.out⟩
