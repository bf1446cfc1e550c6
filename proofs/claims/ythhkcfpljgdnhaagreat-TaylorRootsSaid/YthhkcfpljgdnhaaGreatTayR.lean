/- Package taylor: a range over the pairs of exponents, outermost and within a round; its rounds may panic. -/
import Derived.Test.YthhkcfpljgdnhaaGreatTayA
import Derived.Test.YthhkcfpljgdnhaaGreatRegX
namespace Go.Proofs.YthhkcfpljgdnhaaGreat
open Go.RowKit Mnc

/-- The rounds, whatever the loop's record. -/
theorem pairs_rounds (n B l f:Nat) {fn:Func} (hf:Tryz.prog.funcs[f]?=some fn) {tmps:Array Value} {p q:Tmp} {assign body:Code} {db:Nat}
  (J:Nat->Nat->World->Prop) (D:World->Prop) (Pn:List PanicEntry->World->Prop) (X:World->Prop) (hl:B<=l)
  (hJ:∀s i W o,J s i W->J s i (W.putObj l o)) (hD:∀W o,D W->D (W.putObj l o))
  (hX:∀W W',KeepA B W W'->X W->X W') (hXl:∀W o,X W->X (W.putObj l o))
  (hnx:∀s W,s<=5->J s (s+1) W->J (s+1) 0 W)
  (hround:∀s i W,i<=s->s<=5->J s i W->(∃r,W.heap[l]?=some (.loop r)) ->
   wpF f (some l) Tryz.prog assign (Exit.then (fun a₁ W₁=>KeepA B W W₁/\∀o,wpF f (some l) Tryz.prog body (roundEnd B (W₁.putObj l (.loop o)) (J s (i+1)) D Pn) a₁ (W₁.putObj l (.loop o))) (fun _ _ _=>False))
    {tmps:=(tmps.setIfInBounds p (.int .i64 i)).setIfInBounds q (.int .i64 ((s-i:Nat):Int)),defers:=[]} W)
  (W:World) (h0:J 0 0 W) (hlW:W.heap[l]?=some (.loop (recOf f tmps #[p,q] assign body db .ready none))) (hXW:X W) :
  CallsIn Fence.wide n Tryz.prog 59 #[.func (.yield l) #[] #[]] W fun e W' =>
   ((∃v,e=.returned v)/\((J 6 0 W'/\W'.heap[l]?=some (.loop (recOf f tmps #[p,q] assign body db .ready none))/\X W')∨(D W'/\W'.heap[l]?=some (.loop (recOf f tmps #[p,q] assign body db .done (some .ret)))/\X W')))∨∃c,e=.panicked c/\Pn c W'/\X W':=by
 refine (tay_pairs n l (fun s i W=>J s i W/\W.heap[l]?=some (.loop (recOf f tmps #[p,q] assign body db .ready none))/\X W)
  (fun W=>D W/\W.heap[l]?=some (.loop (recOf f tmps #[p,q] assign body db .done (some .ret)))/\X W) (fun c W=>Pn c W/\X W) ?_ ?_ W ⟨h0,hlW,hXW⟩).mono ?_
 ·rintro s i W hi hs ⟨hj,hlo,hx⟩
  refine ⟨f,(tmps.setIfInBounds p (.int .i64 i)).setIfInBounds q (.int .i64 ((s-i:Nat):Int)),assign,body,?_,roundIn_of_wpF hf (wpF_mono (hround s i W hi hs hj ⟨_,hlo⟩) ?_)⟩
  ·rw [run_yield hlo (by rfl)]
   simp [recOf]
  ·intro e a₁ W₁ he
   cases e<;>first | exact he.elim | skip
   obtain ⟨hk,hb⟩:=he
   have hlt:l<W.heap.size:=(Array.getElem?_eq_some_iff.1 hlo).1
   have hlt1:l<W₁.heap.size:=Nat.lt_of_lt_of_le hlt hk.size
   have hl1:=(hk.same l hl hlt).trans hlo
   refine ⟨_,run_beginRound hl1 rfl,wpF_mono (hb _) ?_⟩
   have hx1:=hXl _ (.loop {recOf f tmps #[p,q] assign body db .ready none with state:=.busy}) (hX _ _ hk hx)
   have hl2:(W₁.putObj l (.loop {recOf f tmps #[p,q] assign body db .ready none with state:=.busy})).heap[l]?=_:=World.putObj_heap_same hlt1
   intro e a₂ W₂ he
   cases e with
   | normal =>
    have hl3:=(he.1.same l hl (by simpa using hlt1)).trans hl2
    exact ⟨_,_,run_endRound none hl3,.inl ⟨rfl,hJ _ _ _ _ he.2,World.putObj_heap_same (Array.getElem?_eq_some_iff.1 hl3).1,hXl _ _ (hX _ _ he.1 hx1)⟩⟩
   | ret =>
    have hl3:=(he.1.same l hl (by simpa using hlt1)).trans hl2
    exact ⟨_,_,run_endRound (some .ret) hl3,.inr (.inl ⟨rfl,hD _ _ he.2,World.putObj_heap_same (Array.getElem?_eq_some_iff.1 hl3).1,hXl _ _ (hX _ _ he.1 hx1)⟩)⟩
   | panic c=>exact ⟨he.1,.inr (.inr ⟨c,rfl,he.2.2,hX _ _ he.2.1 hx1⟩)⟩
   | exit _=>exact he.elim
   | goto _=>exact he.elim
   | outgrown=>exact he.elim
 ·rintro s W hs ⟨hj,hr⟩
  exact ⟨hnx s W hs hj,hr⟩
 ·rintro e W' (⟨hv,h | h⟩ | h)
  ·exact .inl ⟨hv,.inl h⟩
  ·exact .inl ⟨hv,.inr h⟩
  ·exact .inr h
theorem pairs_invoke (l:Nat) (w:World):(invoke (.fn (.func 59) #[]) #[.func (.yield l) #[] #[]]).run Tryz.prog w=.ok (.enter 59 #[.func (.yield l) #[] #[]]) w:=by
 simp [go_sem]
/-- An outermost range over the pairs. -/
theorem pairs_outer (n f:Nat) {fn:Func} (hf:Tryz.prog.funcs[f]?=some fn) {g:Operand} {p q:Tmp} {assign body:Code} {Q:Exit->Act->World->Prop} {a:Act} {w:World}
  (hg:a.eval g=.func (.func 59) #[] #[]) (J:Nat->Nat->World->Prop) (D:World->Prop) (Pn:List PanicEntry->World->Prop)
  (hJ:∀s i W k o,w.heap.size<=k->J s i W->J s i (W.putObj k o)) (hD:∀W k o,w.heap.size<=k->D W->D (W.putObj k o))
  (hnx:∀s W,s<=5->J s (s+1) W->J (s+1) 0 W) (h0:∀o o',J 0 0 ((w.alloc o).alloc o'))
  (hround:∀l,w.heap.size<=l->∀s i W,i<=s->s<=5->J s i W->(∃r,W.heap[l]?=some (.loop r)) ->
   wpF f (some l) Tryz.prog assign (Exit.then (fun a₁ W₁=>KeepA w.heap.size W W₁/\∀o,wpF f (some l) Tryz.prog body (roundEnd w.heap.size (W₁.putObj l (.loop o)) (J s (i+1)) D Pn) a₁ (W₁.putObj l (.loop o))) (fun _ _ _=>False))
    {tmps:=(a.tmps.setIfInBounds p (.int .i64 i)).setIfInBounds q (.int .i64 ((s-i:Nat):Int)),defers:=[]} W)
  (hQ:∀W,J 6 0 W->W.heap[w.heap.size]?=some (.deferred (some []))->Q .normal {a with defers:={target:=.collected w.heap.size,args:=#[]}::a.defers} W)
  (hR:∀W,D W->W.heap[w.heap.size]?=some (.deferred (some []))->Q .ret {a with defers:={target:=.collected w.heap.size,args:=#[]}::a.defers} W)
  (hP:∀c W,Pn c W->W.heap[w.heap.size]?=some (.deferred (some []))->Q (.panic c) {a with defers:={target:=.collected w.heap.size,args:=#[]}::a.defers} W) :
  wpF f none Tryz.prog (Code.rangeFunc g #[p,q] assign body) Q a w:=by
 have hD0:((w.alloc (.deferred (some []))).alloc (.loop (recOf f a.tmps #[p,q] assign body w.heap.size .ready none))).heap[w.heap.size]?=some (.deferred (some [])) :=
  (Below.heap_alloc _ _ _ (by simp)).trans (World.alloc_heap_new w _)
 have hL0:((w.alloc (.deferred (some []))).alloc (.loop (recOf f a.tmps #[p,q] assign body w.heap.size .ready none))).heap[w.heap.size+1]?=some (.loop (recOf f a.tmps #[p,q] assign body w.heap.size .ready none)):=by
  have:=World.alloc_heap_new (w.alloc (.deferred (some []))) (.loop (recOf f a.tmps #[p,q] assign body w.heap.size .ready none))
  rwa [World.size_alloc] at this
 refine wpF_rangeFunc (n:=n) (w.heap.size+1) _ ((w.alloc (.deferred (some []))).alloc (.loop (recOf f a.tmps #[p,q] assign body w.heap.size .ready none))) {target:=.fn (.func 59) #[],args:=#[.func (.yield (w.heap.size+1)) #[] #[]]} ((w.alloc (.deferred (some []))).alloc (.loop (recOf f a.tmps #[p,q] assign body w.heap.size .ready none))) 59 _ ((w.alloc (.deferred (some []))).alloc (.loop (recOf f a.tmps #[p,q] assign body w.heap.size .ready none))) (run_enterLoop_outer _ _ _ _ _) ?_ (pairs_invoke _ _) ?_
 ·simp only [resolve,hg]
  simp [go_sem]
 ·refine (pairs_rounds n w.heap.size (w.heap.size+1) f hf J D Pn (fun W=>W.heap[w.heap.size]?=some (.deferred (some []))) (by omega) (fun s i W o=>hJ s i W _ o (by omega)) (fun W o=>hD W _ o (by omega))
   (fun W W' hk h=>(hk.same _ (Nat.le_refl _) (Array.getElem?_eq_some_iff.1 h).1).trans h) (fun W o h=>(World.putObj_heap_other (by omega)).trans h) hnx (hround _ (by omega)) _ (h0 _ _) hL0 hD0).mono ?_
  rintro e W' (⟨⟨v,rfl⟩,⟨hj,hl,hx⟩ | ⟨hd,hl,hx⟩⟩ | ⟨c,rfl,hp,hx⟩)
  ·exact ⟨none,_,run_endLoop hl (by simp [recOf]),hQ _ (hJ _ _ _ _ _ (by omega) hj) ((World.putObj_heap_other (by omega)).trans hx)⟩
  ·exact ⟨some .ret,_,run_endLoop hl (by simp [recOf]),wpF_of (n:=0) (wpIn_ret (hR _ (hD _ _ _ (by omega) hd) ((World.putObj_heap_other (by omega)).trans hx)))⟩
  ·exact hP c _ hp hx
/-- A range over the pairs within a round. -/
theorem pairs_inner (n f l₀:Nat) {fn:Func} (hf:Tryz.prog.funcs[f]?=some fn) {g:Operand} {p q:Tmp} {assign body:Code} {Q:Exit->Act->World->Prop} {a:Act} {w:World}
  (hr:∃r,w.heap[l₀]?=some (.loop r))
  (hg:a.eval g=.func (.func 59) #[] #[]) (J:Nat->Nat->World->Prop) (Pn:List PanicEntry->World->Prop)
  (hJ:∀s i W k o,w.heap.size<=k->J s i W->J s i (W.putObj k o))
  (hnx:∀s W,s<=5->J s (s+1) W->J (s+1) 0 W) (h0:∀o,J 0 0 (w.alloc o))
  (hround:∀l,w.heap.size<=l->∀s i W,i<=s->s<=5->J s i W->(∃r,W.heap[l]?=some (.loop r)) ->
   wpF f (some l) Tryz.prog assign (Exit.then (fun a₁ W₁=>KeepA w.heap.size W W₁/\∀o,wpF f (some l) Tryz.prog body (roundEnd w.heap.size (W₁.putObj l (.loop o)) (J s (i+1)) (fun _=>False) Pn) a₁ (W₁.putObj l (.loop o))) (fun _ _ _=>False))
    {tmps:=(a.tmps.setIfInBounds p (.int .i64 i)).setIfInBounds q (.int .i64 ((s-i:Nat):Int)),defers:=[]} W)
  (hQ:∀W,J 6 0 W->Q .normal a W) (hP:∀c W,Pn c W->Q (.panic c) a W) :
  wpF f (some l₀) Tryz.prog (Code.rangeFunc g #[p,q] assign body) Q a w:=by
 obtain ⟨r₀,hr⟩:=hr
 have hL0:(w.alloc (.loop (recOf f a.tmps #[p,q] assign body r₀.defers .ready none))).heap[w.heap.size]?=some (.loop (recOf f a.tmps #[p,q] assign body r₀.defers .ready none)):=World.alloc_heap_new _ _
 refine wpF_rangeFunc (n:=n) w.heap.size _ (w.alloc (.loop (recOf f a.tmps #[p,q] assign body r₀.defers .ready none))) {target:=.fn (.func 59) #[],args:=#[.func (.yield w.heap.size) #[] #[]]} (w.alloc (.loop (recOf f a.tmps #[p,q] assign body r₀.defers .ready none))) 59 _ (w.alloc (.loop (recOf f a.tmps #[p,q] assign body r₀.defers .ready none))) (run_enterLoop_inner hr _ _ _ _ _) ?_ (pairs_invoke _ _) ?_
 ·simp only [resolve,hg]
  simp [go_sem]
 ·refine (pairs_rounds n w.heap.size w.heap.size f hf J (fun _=>False) Pn (fun _=>True) (Nat.le_refl _) (fun s i W o=>hJ s i W _ o (Nat.le_refl _)) (fun W o h=>h)
   (fun W W' hk h=>trivial) (fun W o h=>trivial) hnx (hround _ (Nat.le_refl _)) _ (h0 _) hL0 trivial).mono ?_
  rintro e W' (⟨⟨v,rfl⟩,⟨hj,hl,hx⟩ | ⟨hd,hl,hx⟩⟩ | ⟨c,rfl,hp,hx⟩)
  ·exact ⟨none,_,run_endLoop hl (by simp [recOf]),hQ _ (hJ _ _ _ _ _ (Nat.le_refl _) hj)⟩
  ·exact hd.elim
  ·exact hP c _ hp
end Go.Proofs.YthhkcfpljgdnhaaGreat
